-- a text of this work, without what this claim doesn't use (wip/shake.py)
import Derived.Test.YtfhapffjnafkbaaTVPcmp
namespace Go.Proofs.Ytfhapffjnafkbaa.V
open Go.RowKit Go.Proofs.YtfhapffjnafkbaaW.PrintWords Go.Proofs.YtfhapffjnafkbaaW.PrintLast Go.Proofs.YtfhapffjnafkbaaW.PrintMore
attribute [local go_sem] max2_int min2_int max_two min_two max_three min_three max_four min_four
set_option linter.unusedVariables false
set_option linter.unusedSimpArgs false
def entry_compare.f (k : Nat) (a0_0 : Int) (a0_1 : Int) (a1_0 : Int) (a1_1 : Int) : Option (Int) := (cmp_Compare_uint64.f a0_0 a1_0).bind fun t103 => ((cmp_Compare_int.f a0_1 a1_1).bind fun t104 => ((cmp_Or_int.f k (([t103, t104] : List Int))).bind fun t108 => (some t108)))
def entry_compare.T1 : Bool × List (List Nat × List Nat) := (true, [([], []), ([0], [0]), ([], []), ([2], [2]), ([1, 3], [1, 3]), ([], []), ([5], [5]), ([], []), ([7], [7]), ([6, 8, 4], [6, 8]), ([4, 9], [4, 9]), ([10, 9], [10]), ([11, 11, 0, 1, 2, 3, 4, 5, 6, 7, 8, 9, 10, 11], [11])])
def entry_compare.B1 : List Nat := [0, 1, 0, 4, 15, 0, 32, 0, 128, 511, 1023, 2047, 4095]
theorem entry_compare.tab1 : rtab .any (opsOf Try.f46 1) = entry_compare.T1 := by kernel_rfl
theorem entry_compare.bits1 : waitsOk entry_compare.T1.2 entry_compare.B1 = true := by kernel_rfl
set_option maxHeartbeats 8000000 in
set_option maxRecDepth 100000 in
theorem entry_compare.calls (k : Nat) (a0_0 : Int) (a0_1 : Int) (a1_0 : Int) (a1_1 : Int) (r : Int) (w : World) (h : entry_compare.f k a0_0 a0_1 a1_0 a1_1 = some r) :
 Calls Try.prog 46 #[.agg #[.int .u64 a0_0, .int .i64 a0_1], .agg #[.int .u64 a1_0, .int .i64 a1_1]] w fun e w' => e = .returned (.int .i64 r) ∧ Below w.heap.size w w' := by
 have hu33 := Try.underlying33; have HB := Aside0.mk (Below.refl w.heap.size w); have H : ((cmp_Compare_uint64.f a0_0 a1_0).bind fun t103 => ((cmp_Compare_int.f a0_1 a1_1).bind fun t104 => ((cmp_Or_int.f k (([t103, t104] : List Int))).bind fun t108 => (some t108)))) = some r := h; clear h; replace H := Option.bind_eq_some_iff.mp H; obtain ⟨t103, A30, H⟩ := H; replace H : ((cmp_Compare_int.f a0_1 a1_1).bind fun t104 => ((cmp_Or_int.f k (([t103, t104] : List Int))).bind fun t108 => (some t108))) = some r := H; have A3 := Aside0.mk A30; clear A30; replace H := Option.bind_eq_some_iff.mp H; obtain ⟨t104, A40, H⟩ := H; replace H : ((cmp_Or_int.f k (([t103, t104] : List Int))).bind fun t108 => (some t108)) = some r := H; have A4 := Aside0.mk A40; clear A40; obtain ⟨y105, hy105⟩ : ∃ y_ : List Int, y_ = (([t103, t104] : List Int)) := ⟨_, rfl⟩; (replace H : ((cmp_Or_int.f k y105).bind fun t108 => (some t108)) = some r := by first | (rw [hy105]; with_reducible exact H) | (have H2_ := (vr _ _).symm.trans H; rw [hy105]; with_reducible exact H2_) | (have H2_ := (vr _ _).symm.trans H; with_reducible exact H2_) | with_reducible exact H | (rw [hy105]; exact H) | exact H); have Ny105 := Aside0.mk hy105; clear hy105; replace H := Option.bind_eq_some_iff.mp H; obtain ⟨t108, A50, H⟩ := H; replace H : (some t108) = some r := H; have A5 := Aside0.mk A50; clear A50; obtain rfl := Option.some.inj H; go_enter Try.func46, Try.ntmps46
 try go_wp2_with (first | ((with_reducible refine xf (N := 2) rfl ?_); refine xm ?hg (N := 2) ?hd (cs := #[.int .u64 a0_0, .int .i64 a0_1]) (t := 33) ?hr ?_; (case hd => rfl); (case hg => rfl); (case hr => first | (go_simp; done) | (go_simp; rfl)); intro gb101 hg w6 hbox hb; have n0_ := Aside0.mk (us (by repeat (first | (with_reducible first | exact HB.out | apply uf | apply ud | apply ue) | exact HB.out)) hb); have n1_ := Aside0.mk (hbox); have n2_ := Aside0.mk ((by rw [hg]; exact (uv (by repeat (first | (with_reducible first | exact HB.out | apply uf | apply ud | apply ue) | exact HB.out))) : w.heap.size ≤ gb101)); have n3_ := Aside0.mk ((by rw [hg]; exact (uv (by repeat (first | (with_reducible first | exact HB.out | apply uf | apply ud | apply ue) | exact HB.out))) : w.heap.size ≤ gb101)); clear HB; have HB := n0_; have BK101 := n1_; have GW101 := n2_; have GE101 := n3_; clear n0_ n1_ n2_ n3_; clear hb hbox hg) | ((with_reducible refine xf (N := 3) rfl ?_); refine xm ?hg (N := 3) ?hd (cs := #[.int .u64 a1_0, .int .i64 a1_1]) (t := 33) ?hr ?_; (case hd => rfl); (case hg => rfl); (case hr => first | (go_simp; done) | (go_simp; rfl)); intro gb102 hg w7 hbox hb; have n0_ := Aside0.mk (vy (g := gb101) (o := .cells #[.int .u64 a0_0, .int .i64 a0_1] 33 (0, 0)) (by (with_reducible repeat (first | refine ux ?_ _ | refine uu ?_ | refine uy ?_ _)); exact BK101.out) hb); have n1_ := Aside0.mk (us (by repeat (first | (with_reducible first | exact HB.out | apply uf | apply ud | apply ue | refine ur ?_ GE101.out) | exact HB.out)) hb); have n2_ := Aside0.mk (hbox); have n3_ := Aside0.mk ((by rw [hg]; exact (uv (by repeat (first | (with_reducible first | exact HB.out | apply uf | apply ud | apply ue | refine ur ?_ GE101.out) | exact HB.out))) : w.heap.size ≤ gb102)); have n4_ := Aside0.mk ((by rw [hg]; exact (uv (by repeat (first | (with_reducible first | exact HB.out | apply uf | apply ud | apply ue | refine ur ?_ GE101.out) | exact HB.out))) : w.heap.size ≤ gb102)); have n5_ := Aside0.mk ((by rw [hg]; exact Nat.ne_of_lt (blk_lt (g := gb101) (o := .cells #[.int .u64 a0_0, .int .i64 a0_1] 33 (0, 0)) (by (with_reducible repeat (first | refine ux ?_ _ | refine uu ?_ | refine uy ?_ _)); exact BK101.out)) : gb101 ≠ gb102)); have n6_ := Aside0.mk ((by rw [hg]; exact Nat.ne_of_gt (blk_lt (g := gb101) (o := .cells #[.int .u64 a0_0, .int .i64 a0_1] 33 (0, 0)) (by (with_reducible repeat (first | refine ux ?_ _ | refine uu ?_ | refine uy ?_ _)); exact BK101.out)) : gb102 ≠ gb101)); clear BK101; clear HB; have BK101 := n0_; have HB := n1_; have BK102 := n2_; have GW102 := n3_; have GE102 := n4_; have NB101_102 := n5_; have NB102_101 := n6_; clear n0_ n1_ n2_ n3_ n4_ n5_ n6_; clear hb hbox hg))
 have n0_ := Aside0.mk (uu BK101.out); have n1_ := Aside0.mk (uu BK102.out); have n2_ := Aside0.mk (ue HB.out); clear BK101 BK102 HB; have BK101 := n0_; have BK102 := n1_; have HB := n2_; clear n0_ n1_ n2_; refine start_ (n := 13) (S := fun w' => w'.cell? ⟨gb101, 0, none⟩ = some (.int .u64 a0_0) ∧ w'.cell? ⟨gb101, 1, none⟩ = some (.int .i64 a0_1) ∧ w'.cell? ⟨gb102, 0, none⟩ = some (.int .u64 a1_0) ∧ w'.cell? ⟨gb102, 1, none⟩ = some (.int .i64 a1_1)) (ds := []) #[X, X, X, X, X, X, X, X, X, X, X, X, X] (by kernel_rfl) rfl rfl ⟨(ut BK101.out 0).trans rfl, (ut BK101.out 1).trans rfl, (ut BK102.out 0).trans rfl, (ut BK102.out 1).trans rfl⟩ (fun hHeld => ?_); refine xe entry_compare.tab1 entry_compare.bits1 (fun HT_ HW_ => ?_); generalize w7.drew = w8 at BK101 BK102 HB hHeld ⊢; refine um (i := 0) (N := some 5) (v := ?_) (a' := ?_) #[Y, X, X, X, X, X, X, X, X, X, X, X, X] rfl rfl (uh HT_.out (by kernel_rfl)) (fun _ _ _ h => h) (Or.inl ⟨by rfl, ?_⟩) ?_ ?_; rotate_left
 · intro w'; go_simp; (with_reducible rfl)
 rotate_left
 · simp only [Act.put, ua, ub, uc, ui, uj]; rfl
 refine um (i := 2) (N := some 7) (v := ?_) (a' := ?_) #[Y, X, Y, X, X, X, X, X, X, X, X, X, X] rfl rfl (uh HT_.out (by kernel_rfl)) (fun _ _ _ h => h) (Or.inl ⟨by rfl, ?_⟩) ?_ ?_; rotate_left
 · intro w'; go_simp; (with_reducible rfl)
 rotate_left
 · simp only [Act.put, ua, ub, uc, ui, uj]; rfl
 refine um (i := 5) (N := some 10) (v := ?_) (a' := ?_) #[Y, X, Y, X, X, Y, X, X, X, X, X, X, X] rfl rfl (uh HT_.out (by kernel_rfl)) (fun _ _ _ h => h) (Or.inl ⟨by rfl, ?_⟩) ?_ ?_; rotate_left
 · intro w'; go_simp; (with_reducible rfl)
 rotate_left
 · simp only [Act.put, ua, ub, uc, ui, uj]; rfl
 refine um (i := 7) (N := some 12) (v := ?_) (a' := ?_) #[Y, X, Y, X, X, Y, X, Y, X, X, X, X, X] rfl rfl (uh HT_.out (by kernel_rfl)) (fun _ _ _ h => h) (Or.inl ⟨by rfl, ?_⟩) ?_ ?_; rotate_left
 · intro w'; go_simp; (with_reducible rfl)
 rotate_left
 · simp only [Act.put, ua, ub, uc, ui, uj]; rfl
 refine xl (i := 1) (N := some 6) (v := ?_) (a' := ?_) #[Y, Y, Y, X, X, Y, X, Y, X, X, X, X, X] rfl rfl (vx HT_.out HW_.out (by kernel_rfl)) (fun _ _ _ h => h) (Or.inl ⟨by rfl, ?_⟩) hHeld ?_ ?_; rotate_left
 · rintro w' ⟨s0, s1, s2, s3⟩; go_simp; (with_reducible rfl)
 rotate_left
 · simp only [Act.put, ua, ub, uc, ui, uj]; rfl
 refine xl (i := 3) (N := some 8) (v := ?_) (a' := ?_) #[Y, Y, Y, Y, X, Y, X, Y, X, X, X, X, X] rfl rfl (vx HT_.out HW_.out (by kernel_rfl)) (fun _ _ _ h => h) (Or.inl ⟨by rfl, ?_⟩) hHeld ?_ ?_; rotate_left
 · rintro w' ⟨s0, s1, s2, s3⟩; go_simp; (with_reducible rfl)
 rotate_left
 · simp only [Act.put, ua, ub, uc, ui, uj]; rfl
 refine xl (i := 6) (N := some 11) (v := ?_) (a' := ?_) #[Y, Y, Y, Y, X, Y, Y, Y, X, X, X, X, X] rfl rfl (vx HT_.out HW_.out (by kernel_rfl)) (fun _ _ _ h => h) (Or.inl ⟨by rfl, ?_⟩) hHeld ?_ ?_; rotate_left
 · rintro w' ⟨s0, s1, s2, s3⟩; go_simp; (with_reducible rfl)
 rotate_left
 · simp only [Act.put, ua, ub, uc, ui, uj]; rfl
 refine xl (i := 8) (N := some 13) (v := ?_) (a' := ?_) #[Y, Y, Y, Y, X, Y, Y, Y, Y, X, X, X, X] rfl rfl (vx HT_.out HW_.out (by kernel_rfl)) (fun _ _ _ h => h) (Or.inl ⟨by rfl, ?_⟩) hHeld ?_ ?_; rotate_left
 · rintro w' ⟨s0, s1, s2, s3⟩; go_simp; (with_reducible rfl)
 rotate_left
 · simp only [Act.put, ua, ub, uc, ui, uj]; rfl
 refine one_ (i := 4) (N := some 9) #[Y, Y, Y, Y, Y, Y, Y, Y, Y, X, X, X, X] rfl rfl (one_of HT_.out (by kernel_rfl)) (by decide) (fun K hK => ?_); refine goes_ Try.func58 (by kernel_rfl) rfl #[.int .u64 a0_0, .int .u64 a1_0] (by rfl) rfl rfl (by (try simp only [un, uo, uq]); first | done | rfl | (simp only [ul, uk]; rfl)) ?_; (with_reducible refine (cmp_Compare_uint64.calls a0_0 a1_0 t103 _ A3.out).mono ?_); rintro e w' ⟨rfl, ⟨nd, rfl⟩⟩; refine ⟨_, rfl, ?_⟩; refine hK.out _ _ ⟨(ut BK101.out 0).trans rfl, (ut BK101.out 1).trans rfl, (ut BK102.out 0).trans rfl, (ut BK102.out 1).trans rfl⟩ (fun hHeld => ?_); clear hK K; refine norm_ (a' := ?_) ?_ ?_; rotate_left
 · show Act.put _ (some 9) _ = _
   simp only [Act.put, ua, ub, uc, ui, uj]; rfl
 refine one_ (i := 9) (N := some 14) #[Y, Y, Y, Y, Y, Y, Y, Y, Y, Y, X, X, X] rfl rfl (one_of HT_.out (by kernel_rfl)) (by decide) (fun K hK => ?_); refine goes_ Try.func59 (by kernel_rfl) rfl #[.int .i64 a0_1, .int .i64 a1_1] (by rfl) rfl rfl (by (try simp only [un, uo, uq]); first | done | rfl | (simp only [ul, uk]; rfl)) ?_; (with_reducible refine (cmp_Compare_int.calls a0_1 a1_1 t104 _ A4.out).mono ?_); rintro e w' ⟨rfl, ⟨nd, rfl⟩⟩; refine ⟨_, rfl, ?_⟩; refine hK.out _ _ ⟨(ut BK101.out 0).trans rfl, (ut BK101.out 1).trans rfl, (ut BK102.out 0).trans rfl, (ut BK102.out 1).trans rfl⟩ (fun hHeld => ?_); clear hK K; refine norm_ (a' := ?_) ?_ ?_; rotate_left
 · show Act.put _ (some 14) _ = _
   simp only [Act.put, ua, ub, uc, ui, uj]; rfl
 refine one_ (i := 10) (N := some 15) #[Y, Y, Y, Y, Y, Y, Y, Y, Y, Y, Y, X, X] rfl rfl (one_of HT_.out (by kernel_rfl)) (by decide) (fun K hK => ?_); refine Kd.R_lit_step (Kd.int .i64) _ 3 ?hg (N := 15) ?hd (xs := ([t103, t104] : List Int)) (inner := [.int .i64 t103, .int .i64 t104]) (ok := fun _ => True) (okp := fun _ => True) ?hr ?hp (fun _ hk => hk) trivial (Below.refl _ _) (vn _) (by simp) ?_; (case hd => rfl); (case hg => rfl); (case hr => first | (go_simp; done) | (go_simp; rfl)); (case hp => exact (Reps.one (show Kd.M (Kd.int .i64) _ _ _ t103 [.int .i64 t103] from rfl) (Reps.one (show Kd.M (Kd.int .i64) _ _ _ t104 [.int .i64 t104] from rfl) (Reps.none _ _)))); intro v106 w9 ho10 hb hg_ hnew_; clear hg_ hnew_; (first | rw [← Ny105.out] at ho10 | (simp only [Int.reduceToNat] at ho10; rw [← Ny105.out] at ho10)); have n0_ := Aside0.mk (Kd.R_lower ho10 (uv (by repeat (first | (with_reducible first | exact HB.out | apply uf | apply ud | apply ue | refine ur ?_ GE101.out | refine ur ?_ GE102.out) | exact HB.out)))); have n1_ := Aside0.mk (vy (g := gb101) (o := .cells #[.int .u64 a0_0, .int .i64 a0_1] 33 (0, 0)) (by (with_reducible repeat (first | refine ux ?_ _ | refine uu ?_ | refine uy ?_ _)); exact BK101.out) hb); have n2_ := Aside0.mk (vy (g := gb102) (o := .cells #[.int .u64 a1_0, .int .i64 a1_1] 33 (0, 0)) (by (with_reducible repeat (first | refine ux ?_ _ | refine uu ?_ | refine uy ?_ _)); exact BK102.out) hb); have n3_ := Aside0.mk (us (by repeat (first | (with_reducible first | exact HB.out | apply uf | apply ud | apply ue | refine ur ?_ GE101.out | refine ur ?_ GE102.out) | exact HB.out)) hb); clear BK101 BK102 HB; have HO107 := n0_; have BK101 := n1_; have BK102 := n2_; have HB := n3_; clear n0_ n1_ n2_ n3_ hb ho10; obtain ⟨Ao11, co11, eo11⟩ := Kd.R_slice HO107.out; (first | subst eo11 | (injection eo11 with f1_ f2_ f3_; have f4_ := f1_.symm; have f5_ := f3_.symm; clear f1_ f2_ f3_; subst f4_; subst f5_)); refine hK.out _ _ ⟨(ut BK101.out 0).trans rfl, (ut BK101.out 1).trans rfl, (ut BK102.out 0).trans rfl, (ut BK102.out 1).trans rfl⟩ (fun hHeld => ?_); clear hK K; refine norm_ (a' := ?_) ?_ ?_; rotate_left
 · show Act.put _ (some 15) _ = _
   simp only [Act.put, ua, ub, uc, ui, uj]; rfl
 refine one_ (i := 11) (N := some 16) #[Y, Y, Y, Y, Y, Y, Y, Y, Y, Y, Y, Y, X] rfl rfl (one_of HT_.out (by kernel_rfl)) (by decide) (fun K hK => ?_); refine goes_ Try.func57 (by kernel_rfl) rfl #[.slice Ao11 y105.length co11] (by rfl) rfl rfl (by (try simp only [un, uo, uq]); first | done | rfl | (simp only [ul, uk]; rfl)) ?_; (with_reducible refine (cmp_Or_int.calls k _ _ y105 t108 _ ?side1 ?side2 A5.out).mono ?_); (case side1 => repeat (first | exact (Kd.R_reads' HO107.out).2.2 | (with_reducible refine xi ?_ _) | (with_reducible refine xh ?_ _) | (with_reducible refine xn ?_))); (case side2 => exact (Kd.R_reads' HO107.out).2.1); rintro e w' ⟨rfl, ⟨nd, rfl⟩⟩; refine ⟨_, rfl, ?_⟩; refine hK.out _ _ ⟨(ut BK101.out 0).trans rfl, (ut BK101.out 1).trans rfl, (ut BK102.out 0).trans rfl, (ut BK102.out 1).trans rfl⟩ (fun hHeld => ?_); clear hK K; refine norm_ (a' := ?_) ?_ ?_; rotate_left
 · show Act.put _ (some 16) _ = _
   simp only [Act.put, ua, ub, uc, ui, uj]; rfl
 refine um (i := 12) (N := some 4) (v := ?_) (a' := ?_) #[Y, Y, Y, Y, Y, Y, Y, Y, Y, Y, Y, Y, Y] rfl rfl (uh HT_.out (by kernel_rfl)) (fun _ _ _ h => h) (Or.inl ⟨by rfl, ?_⟩) ?_ ?_; rotate_left
 · intro w'; go_simp; (with_reducible rfl)
 rotate_left
 · simp only [Act.put, ua, ub, uc, ui, uj]; rfl
 refine done_ (xj HT_.out (by kernel_rfl)) ?_
 try go_wp2
 go_ret
 exact ⟨by first | rfl | (simp [errW_none, errW_some] <;> rfl) | (simp [*, errW_none, errW_some] <;> rfl), by repeat (first | (with_reducible first | exact HB.out | apply uf | apply ud | apply ue | refine ur ?_ GE101.out | refine ur ?_ GE102.out) | exact HB.out)⟩
def entry_Less.f (k : Nat) (a0_0 : Int) (a0_1 : Int) (a1_0 : Int) (a1_1 : Int) : Option (Bool) := (entry_compare.f k a0_0 a0_1 a1_0 a1_1).bind fun t103 => (some (decide (t103 < 0)))
set_option maxHeartbeats 8000000 in
set_option maxRecDepth 100000 in
theorem entry_Less.calls (k : Nat) (a0_0 : Int) (a0_1 : Int) (a1_0 : Int) (a1_1 : Int) (r : Bool) (w : World) (h : entry_Less.f k a0_0 a0_1 a1_0 a1_1 = some r) :
 Calls Try.prog 26 #[.agg #[.int .u64 a0_0, .int .i64 a0_1], .agg #[.int .u64 a1_0, .int .i64 a1_1]] w fun e w' => e = .returned (.bool r) ∧ Below w.heap.size w w' := by
 have hu33 := Try.underlying33; have HB := Aside0.mk (Below.refl w.heap.size w); have H : ((entry_compare.f k a0_0 a0_1 a1_0 a1_1).bind fun t103 => (some (decide (t103 < 0)))) = some r := h; clear h; replace H := Option.bind_eq_some_iff.mp H; obtain ⟨t103, A30, H⟩ := H; replace H : (some (decide (t103 < 0))) = some r := H; have A3 := Aside0.mk A30; clear A30; obtain rfl := Option.some.inj H; go_enter Try.func26, Try.ntmps26
 go_wp2_with (first | ((with_reducible refine xf (N := 2) rfl ?_); refine xm ?hg (N := 2) ?hd (cs := #[.int .u64 a0_0, .int .i64 a0_1]) (t := 33) ?hr ?_; (case hd => rfl); (case hg => rfl); (case hr => first | (go_simp; done) | (go_simp; rfl)); intro gb101 hg w4 hbox hb; have n0_ := Aside0.mk (us (by repeat (first | (with_reducible first | exact HB.out | apply uf | apply ud | apply ue) | exact HB.out)) hb); have n1_ := Aside0.mk (hbox); have n2_ := Aside0.mk ((by rw [hg]; exact (uv (by repeat (first | (with_reducible first | exact HB.out | apply uf | apply ud | apply ue) | exact HB.out))) : w.heap.size ≤ gb101)); have n3_ := Aside0.mk ((by rw [hg]; exact (uv (by repeat (first | (with_reducible first | exact HB.out | apply uf | apply ud | apply ue) | exact HB.out))) : w.heap.size ≤ gb101)); clear HB; have HB := n0_; have BK101 := n1_; have GW101 := n2_; have GE101 := n3_; clear n0_ n1_ n2_ n3_; clear hb hbox hg) | ((with_reducible refine xf (N := 3) rfl ?_); refine xm ?hg (N := 3) ?hd (cs := #[.int .u64 a1_0, .int .i64 a1_1]) (t := 33) ?hr ?_; (case hd => rfl); (case hg => rfl); (case hr => first | (go_simp; done) | (go_simp; rfl)); intro gb102 hg w5 hbox hb; have n0_ := Aside0.mk (vy (g := gb101) (o := .cells #[.int .u64 a0_0, .int .i64 a0_1] 33 (0, 0)) (by (with_reducible repeat (first | refine ux ?_ _ | refine uu ?_ | refine uy ?_ _)); exact BK101.out) hb); have n1_ := Aside0.mk (us (by repeat (first | (with_reducible first | exact HB.out | apply uf | apply ud | apply ue | refine ur ?_ GE101.out) | exact HB.out)) hb); have n2_ := Aside0.mk (hbox); have n3_ := Aside0.mk ((by rw [hg]; exact (uv (by repeat (first | (with_reducible first | exact HB.out | apply uf | apply ud | apply ue | refine ur ?_ GE101.out) | exact HB.out))) : w.heap.size ≤ gb102)); have n4_ := Aside0.mk ((by rw [hg]; exact (uv (by repeat (first | (with_reducible first | exact HB.out | apply uf | apply ud | apply ue | refine ur ?_ GE101.out) | exact HB.out))) : w.heap.size ≤ gb102)); have n5_ := Aside0.mk ((by rw [hg]; exact Nat.ne_of_lt (blk_lt (g := gb101) (o := .cells #[.int .u64 a0_0, .int .i64 a0_1] 33 (0, 0)) (by (with_reducible repeat (first | refine ux ?_ _ | refine uu ?_ | refine uy ?_ _)); exact BK101.out)) : gb101 ≠ gb102)); have n6_ := Aside0.mk ((by rw [hg]; exact Nat.ne_of_gt (blk_lt (g := gb101) (o := .cells #[.int .u64 a0_0, .int .i64 a0_1] 33 (0, 0)) (by (with_reducible repeat (first | refine ux ?_ _ | refine uu ?_ | refine uy ?_ _)); exact BK101.out)) : gb102 ≠ gb101)); clear BK101; clear HB; have BK101 := n0_; have HB := n1_; have BK102 := n2_; have GW102 := n3_; have GE102 := n4_; have NB101_102 := n5_; have NB102_101 := n6_; clear n0_ n1_ n2_ n3_ n4_ n5_ n6_; clear hb hbox hg; have hnb6 := NB101_102.out; have hnc6 := NB102_101.out; have hcz7_0 : w5.cell? ⟨gb101, 0, none⟩ = some (.int .u64 a0_0) := (ut BK101.out 0).trans rfl; have hcz7_1 : w5.cell? ⟨gb101, 1, none⟩ = some (.int .i64 a0_1) := (ut BK101.out 1).trans rfl; have hfz7_0 := vq BK101.out 0; have hfz7_1 := vq BK101.out 1; have hcz8_0 : w5.cell? ⟨gb102, 0, none⟩ = some (.int .u64 a1_0) := (ut BK102.out 0).trans rfl; have hcz8_1 : w5.cell? ⟨gb102, 1, none⟩ = some (.int .i64 a1_1) := (ut BK102.out 1).trans rfl; have hfz8_0 := vq BK102.out 0; have hfz8_1 := vq BK102.out 1) | ((with_reducible refine uz (f := 46) rfl ?_); refine xa (some 7) rfl rfl Try.func46 (by kernel_rfl) rfl #[.agg #[.int .u64 a0_0, .int .i64 a0_1], .agg #[.int .u64 a1_0, .int .i64 a1_1]] rfl (by (try simp only [un, uo, uq]); first | done | rfl | (simp only [ul, uk]; rfl)) ?_; (with_reducible refine (entry_compare.calls k a0_0 a0_1 a1_0 a1_1 t103 _ A3.out).mono ?_); rintro e w9 ⟨rfl, hb⟩; refine ⟨_, rfl, ?_⟩; have n0_ := Aside0.mk (vy (g := gb101) (o := .cells #[.int .u64 a0_0, .int .i64 a0_1] 33 (0, 0)) (by (with_reducible repeat (first | refine ux ?_ _ | refine uu ?_ | refine uy ?_ _)); exact BK101.out) hb); have n1_ := Aside0.mk (vy (g := gb102) (o := .cells #[.int .u64 a1_0, .int .i64 a1_1] 33 (0, 0)) (by (with_reducible repeat (first | refine ux ?_ _ | refine uu ?_ | refine uy ?_ _)); exact BK102.out) hb); have n2_ := Aside0.mk (us (by repeat (first | (with_reducible first | exact HB.out | apply uf | apply ud | apply ue | refine ur ?_ GE101.out | refine ur ?_ GE102.out) | exact HB.out)) hb); clear BK101; clear BK102; clear HB; have BK101 := n0_; have BK102 := n1_; have HB := n2_; clear n0_ n1_ n2_; (try clear hb); (try clear hb2); (try clear hk); (try clear hi)))
 go_ret
 exact ⟨by first | rfl | (simp [errW_none, errW_some] <;> rfl) | (simp [*, errW_none, errW_some] <;> rfl), by repeat (first | (with_reducible first | exact HB.out | apply uf | apply ud | apply ue | refine ur ?_ GE101.out | refine ur ?_ GE102.out) | exact HB.out)⟩
def entry_Least.l0 : Nat → Int → Bool → List (List (S33)) → Int → Int → Int → Int → Option (Int × Int × Int × Bool)
  | 0, _, _, _, _, _, _, _ => none
  | k + 1, x3, x4, x7, x8, x9, x102000, x102001 => if x9 < x8 then (if 0 ≤ x9 then (if x9 < (x7.length : Int) then (if ((rd_L5 x7 x9).length : Int) > 0 then (if x4 = true then (if 0 < ((rd_L5 x7 x9).length : Int) then ((entry_Less.f k ((rd_T33 (rd_L5 x7 x9) 0).f0) ((rd_T33 (rd_L5 x7 x9) 0).f1) x102000 x102001).bind fun t104 => (if t104 = true then (entry_Least.l0 k x9 true x7 x8 (wrap64 (x9 + 1)) ((rd_T33 (rd_L5 x7 x9) 0).f0) ((rd_T33 (rd_L5 x7 x9) 0).f1)) else (entry_Least.l0 k x3 x4 x7 x8 (wrap64 (x9 + 1)) x102000 x102001))) else (none)) else (if 0 < ((rd_L5 x7 x9).length : Int) then (entry_Least.l0 k x9 true x7 x8 (wrap64 (x9 + 1)) ((rd_T33 (rd_L5 x7 x9) 0).f0) ((rd_T33 (rd_L5 x7 x9) 0).f1)) else (none))) else (entry_Least.l0 k x3 x4 x7 x8 (wrap64 (x9 + 1)) x102000 x102001)) else (none)) else (none)) else (some (x102000, x102001, x3, x4))
def entry_Least.f (k : Nat) (l0 : List (List (S33))) : Option (Int × Int × Int × Bool) := entry_Least.l0 k 0 false l0 (l0.length : Int) 0 0 0
def entry_Least.T4 : Bool × List (List Nat × List Nat) := (true, [([], []), ([0], [0]), ([1], [1]), ([2], [2]), ([3], [3]), ([4, 3], [3, 4]), ([5, 3, 3], [3, 5]), ([6], [6]), ([7, 6], [6, 7]), ([8, 6], [6, 8]), ([6], [6]), ([9, 10, 6, 6], [6, 9, 10]), ([6, 11, 3], [3, 6, 11]), ([3, 12], [3, 12])])
def entry_Least.B4 : List Nat := [0, 1, 3, 7, 15, 31, 63, 127, 255, 511, 127, 2047, 4095, 8191]
theorem entry_Least.tab4 : rtab .any (opsOf Try.f20 4) = entry_Least.T4 := by kernel_rfl
theorem entry_Least.bits4 : waitsOk entry_Least.T4.2 entry_Least.B4 = true := by kernel_rfl
set_option maxHeartbeats 8000000 in
set_option maxRecDepth 100000 in
theorem entry_Least.calls (k : Nat) (A0 : Option Addr) (c0 : Nat) (l0 : List (List (S33))) (r1 : Int) (r2 : Int) (r3 : Int) (r4 : Bool) (w : World) (hr0 : Kd.C (Kd.slice 33 k33) w A0 l0.length l0) (hc0 : l0.length ≤ c0) (h : entry_Least.f k l0 = some (r1, r2, r3, r4)) :
 Calls Try.prog 20 #[.slice A0 l0.length c0] w fun e w' => e = .returned (.tuple #[.agg #[.int .u64 r1, .int .i64 r2], .int .i64 r3, .bool r4]) ∧ Below w.heap.size w w' := by
 have hu33 := Try.underlying33; have HR0 := Aside0.mk hr0; have HC0 := Aside0.mk hc0; clear hr0 hc0; have HB := Aside0.mk (Below.refl w.heap.size w); have H : (entry_Least.l0 k 0 false l0 (l0.length : Int) 0 0 0) = some (r1, r2, r3, r4) := h; clear h; have H' := Aside0.mk H; clear H; go_enter Try.func20, Try.ntmps20
 go_wp2_with (first | ((with_reducible refine xf (N := 2) rfl ?_); refine xm ?hg (N := 2) ?hd (cs := #[.int .u64 0, .int .i64 0]) (t := 33) ?hr ?_; (case hd => rfl); (case hg => rfl); (case hr => first | (go_simp; done) | (go_simp; rfl)); intro gb101 hg w2 hbox hb; have n0_ := Aside0.mk (us (by repeat (first | (with_reducible first | exact HB.out | apply uf | apply ud | apply ue) | exact HB.out)) hb); have n1_ := Aside0.mk (hbox); have n2_ := Aside0.mk ((by rw [hg]; exact (uv (by repeat (first | (with_reducible first | exact HB.out | apply uf | apply ud | apply ue) | exact HB.out))) : w.heap.size ≤ gb101)); have n3_ := Aside0.mk ((by rw [hg]; exact (uv (by repeat (first | (with_reducible first | exact HB.out | apply uf | apply ud | apply ue) | exact HB.out))) : w.heap.size ≤ gb101)); clear HB; have HB := n0_; have BK101 := n1_; have GW101 := n2_; have GE101 := n3_; clear n0_ n1_ n2_ n3_; clear hb hbox hg))
 go_loopg [3, 4, 9] k (fun kq v3 v4 v9 w' => ∃ (x3_1 : Int) (x4_1 : Bool) (x9_1 : Int) (x102000_1 : Int) (x102001_1 : Int), v3 = .int .i64 x3_1 ∧ v4 = .bool x4_1 ∧ v9 = .int .i64 x9_1 ∧ Aside0 (entry_Least.l0 kq x3_1 x4_1 l0 (l0.length : Int) x9_1 x102000_1 x102001_1 = some (r1, r2, r3, r4)) ∧ Aside0 (kq ≤ k) ∧ Aside0 (w'.heap[gb101]? = some (.cells #[.int .u64 x102000_1, .int .i64 x102001_1] 33 (0, 0))) ∧ Aside0 (Below w.heap.size w w'))
 case atStart => exact ⟨(0), (false), (0), (0), (0), (by first | rfl | (simp; done) | (simp [*]; done)), (by first | rfl | (simp; done) | (simp [*]; done)), (by first | rfl | (simp; done) | (simp [*]; done)), H', ⟨vn _⟩, ⟨by (with_reducible repeat (first | refine ux ?_ _ | refine uu ?_ | refine uy ?_ _)); exact BK101.out⟩, ⟨by repeat (first | (with_reducible first | exact HB.out | apply uf | apply ud | apply ue | refine ur ?_ GE101.out) | exact HB.out)⟩⟩
 case round =>
  clear H'
  try clear c2
  try clear p2
  obtain ⟨x3_1, x4_1, x9_1, x102000_1, x102001_1, rfl, rfl, rfl, HA, HK1, BK101, HB⟩ := hrel
  cases gk with
  | zero => exact absurd HA.out (by simp [entry_Least.l0])
  | succ k1 =>
   have H := HA.out; clear HA; simp only [entry_Least.l0] at H
   by_cases c3 : x9_1 < (l0.length : Int)
   · rw [if_pos c3] at H; have c3b0 : decide (x9_1 < (l0.length : Int)) = true := decide_eq_true c3; clear c3
     by_cases c4 : 0 ≤ x9_1
     · rw [if_pos c4] at H; have c4b0 : decide (0 ≤ x9_1) = true := decide_eq_true c4; clear c4
       by_cases c5 : x9_1 < (l0.length : Int)
       · rw [if_pos c5] at H; have c5b0 : decide (x9_1 < (l0.length : Int)) = true := decide_eq_true c5; clear c5
         by_cases c6 : ((rd_L5 l0 x9_1).length : Int) > 0
         · rw [if_pos c6] at H; have c6b0 : decide (0 < ((rd_L5 l0 x9_1).length : Int)) = true := decide_eq_true c6; have c6b1 : decide (0 < (rd_L5 l0 x9_1).length) = true := decide_eq_true (by omega); clear c6
           by_cases c7 : x4_1 = true
           · subst c7; (have H1 : (if 0 < ((rd_L5 l0 x9_1).length : Int) then ((entry_Less.f k1 ((rd_T33 (rd_L5 l0 x9_1) 0).f0) ((rd_T33 (rd_L5 l0 x9_1) 0).f1) x102000_1 x102001_1).bind fun t104 => (if t104 = true then (entry_Least.l0 k1 x9_1 true l0 (l0.length : Int) (wrap64 (x9_1 + 1)) ((rd_T33 (rd_L5 l0 x9_1) 0).f0) ((rd_T33 (rd_L5 l0 x9_1) 0).f1)) else (entry_Least.l0 k1 x3_1 true l0 (l0.length : Int) (wrap64 (x9_1 + 1)) x102000_1 x102001_1))) else (none)) = some (r1, r2, r3, r4) := by rw [if_pos rfl] at H; exact H); clear H; have H := H1; clear H1
             by_cases c8 : 0 < ((rd_L5 l0 x9_1).length : Int)
             · rw [if_pos c8] at H; have c8b0 : decide (0 < ((rd_L5 l0 x9_1).length : Int)) = true := decide_eq_true c8; have c8b1 : decide (0 < (rd_L5 l0 x9_1).length) = true := decide_eq_true (by omega); clear c8; replace H := Option.bind_eq_some_iff.mp H; obtain ⟨t104, A90, H⟩ := H; replace H : (if t104 = true then (entry_Least.l0 k1 x9_1 true l0 (l0.length : Int) (wrap64 (x9_1 + 1)) ((rd_T33 (rd_L5 l0 x9_1) 0).f0) ((rd_T33 (rd_L5 l0 x9_1) 0).f1)) else (entry_Least.l0 k1 x3_1 true l0 (l0.length : Int) (wrap64 (x9_1 + 1)) x102000_1 x102001_1)) = some (r1, r2, r3, r4) := H; have A9 := Aside0.mk A90; clear A90
               by_cases c10 : t104 = true
               · subst c10; (have H1 : (entry_Least.l0 k1 x9_1 true l0 (l0.length : Int) (wrap64 (x9_1 + 1)) ((rd_T33 (rd_L5 l0 x9_1) 0).f0) ((rd_T33 (rd_L5 l0 x9_1) 0).f1)) = some (r1, r2, r3, r4) := by rw [if_pos rfl] at H; exact H); clear H; have H := H1; clear H1; have H' := Aside0.mk H; clear H; have p102 : 0 ≤ (x9_1 : Int) := ug (by first | (with_reducible assumption) | assumption); have q102 : x9_1 < (l0.length : Int) := ug (by first | (with_reducible assumption) | assumption); obtain ⟨ad102, A102_0, c102_0, e102, hx102_0, hl102_0, hi102_0⟩ := at_L5 HR0.out x9_1 p102 q102
                 cases e102
                 replace hx102_0 := (HB.out.cell (World.block_lt_of_cell? w _ hx102_0)).trans hx102_0; have HR102_0 := Aside0.mk hi102_0; have HC102_0 := Aside0.mk hl102_0; clear hi102_0 hl102_0; replace p102 := eq_true p102; replace q102 := eq_true q102
                 try go_wp2
                 have n0_ := Aside0.mk (uu BK101.out); have n1_ := Aside0.mk (ue HB.out); clear BK101 HB; have BK101 := n0_; have HB := n1_; clear n0_ n1_; have p103 : 0 ≤ (0 : Int) := (by omega); have q103 : 0 < ((rd_L5 l0 x9_1).length : Int) := ug (by first | (with_reducible assumption) | assumption); obtain ⟨ad103, e103, hx103_0, hx103_1⟩ := at_T33 HR102_0.out 0 p103 q103; have hw103_1 := hx103_1; (try rw [show ((0 : Int)).toNat = 0 from rfl] at hw103_1); (try rw [show 0 * 2 = 0 from rfl] at hw103_1); (try rw [Addr.add_zero'] at hw103_1); have hw103_0 := hx103_0; (try rw [show ((0 : Int)).toNat = 0 from rfl] at hw103_0); (try rw [show 0 * 2 = 0 from rfl] at hw103_0); (try rw [Addr.add_zero'] at hw103_0)
                 cases e103
                 have qi103 : (0 < (rd_L5 l0 x9_1).length) = True := eq_true (by omega); (try rw [show ((0 : Int)).toNat = 0 from rfl] at hx103_0); (try rw [show 0 * 2 = 0 from rfl] at hx103_0); (try rw [Addr.add_zero'] at hx103_0); (try rw [show ((0 : Int)).toNat = 0 from rfl] at hx103_1); (try rw [show 0 * 2 = 0 from rfl] at hx103_1); (try rw [Addr.add_zero'] at hx103_1); replace hx103_0 := (HB.out.cell (World.block_lt_of_cell? w _ hx103_0)).trans hx103_0; replace hx103_1 := (HB.out.cell (World.block_lt_of_cell? w _ hx103_1)).trans hx103_1; replace p103 := eq_true p103; replace q103 := eq_true q103; refine start_ (n := 14) (S := fun w' => w'.cell? ⟨gb101, 0, none⟩ = some (.int .u64 x102000_1) ∧ w'.cell? ⟨gb101, 1, none⟩ = some (.int .i64 x102001_1) ∧ w'.cell? ad103 = some (.int .u64 ((rd_T33 (rd_L5 l0 x9_1) 0).f0)) ∧ w'.cell? ⟨ad103.block, ad103.off + 1, none⟩ = some (.int .i64 ((rd_T33 (rd_L5 l0 x9_1) 0).f1))) (ds := []) #[X, X, X, X, X, X, X, X, X, X, X, X, X, X] (by kernel_rfl) rfl rfl ⟨(ut BK101.out 0).trans rfl, (ut BK101.out 1).trans rfl, ((HB.out.cell (World.block_lt_of_cell? w _ hw103_0)).trans hw103_0), ((HB.out.cell (World.block_lt_of_cell? w _ hw103_1)).trans hw103_1)⟩ (fun hHeld => ?_); refine xe entry_Least.tab4 entry_Least.bits4 (fun HT_ HW_ => ?_); generalize wr.drew = w11 at BK101 HB hx103_0 hx103_1 hHeld ⊢; refine um (i := 0) (N := some 14) (v := ?_) (a' := ?_) #[Y, X, X, X, X, X, X, X, X, X, X, X, X, X] rfl rfl (uh HT_.out (by kernel_rfl)) (fun _ _ _ h => h) (Or.inl ⟨by rfl, ?_⟩) ?_ ?_; rotate_left
                 · intro w'; go_simp; (with_reducible rfl)
                 rotate_left
                 · simp only [Act.put, ua, ub, uc, ui, uj]; rfl
                 refine um (i := 1) (N := some 15) (v := ?_) (a' := ?_) #[Y, Y, X, X, X, X, X, X, X, X, X, X, X, X] rfl rfl (uh HT_.out (by kernel_rfl)) (fun _ _ _ h => h) (Or.inl ⟨by rfl, ?_⟩) ?_ ?_; rotate_left
                 · intro w'; go_simp; (with_reducible rfl)
                 rotate_left
                 · simp only [Act.put, ua, ub, uc, ui, uj]; rfl
                 refine um (i := 2) (N := some 16) (v := ?_) (a' := ?_) #[Y, Y, Y, X, X, X, X, X, X, X, X, X, X, X] rfl rfl (uh HT_.out (by kernel_rfl)) (fun _ _ _ h => h) (Or.inl ⟨by rfl, ?_⟩) ?_ ?_; rotate_left
                 · intro w'; go_simp; (with_reducible rfl)
                 rotate_left
                 · simp only [Act.put, ua, ub, uc, ui, uj]; rfl
                 refine um (i := 3) (N := some 17) (v := ?_) (a' := ?_) #[Y, Y, Y, Y, X, X, X, X, X, X, X, X, X, X] rfl rfl (uh HT_.out (by kernel_rfl)) (fun _ _ _ h => h) (Or.inl ⟨by rfl, ?_⟩) ?_ ?_; rotate_left
                 · intro w'; go_simp; (with_reducible rfl)
                 rotate_left
                 · simp only [Act.put, ua, ub, uc, ui, uj]; rfl
                 refine um (i := 4) (N := some 18) (v := ?_) (a' := ?_) #[Y, Y, Y, Y, Y, X, X, X, X, X, X, X, X, X] rfl rfl (uh HT_.out (by kernel_rfl)) (fun _ _ _ h => h) (Or.inl ⟨by rfl, ?_⟩) ?_ ?_; rotate_left
                 · intro w'; go_simp; (with_reducible rfl)
                 rotate_left
                 · simp only [Act.put, ua, ub, uc, ui, uj]; rfl
                 refine um (i := 5) (N := some 19) (v := ?_) (a' := ?_) #[Y, Y, Y, Y, Y, Y, X, X, X, X, X, X, X, X] rfl rfl (uh HT_.out (by kernel_rfl)) (fun _ _ _ h => h) (Or.inl ⟨by rfl, ?_⟩) ?_ ?_; rotate_left
                 · intro w'; go_simp; (with_reducible rfl)
                 rotate_left
                 · simp only [Act.put, ua, ub, uc, ui, uj]; rfl
                 refine um (i := 6) (N := some 20) (v := ?_) (a' := ?_) #[Y, Y, Y, Y, Y, Y, Y, X, X, X, X, X, X, X] rfl rfl (uh HT_.out (by kernel_rfl)) (fun _ _ _ h => h) (Or.inl ⟨by rfl, ?_⟩) ?_ ?_; rotate_left
                 · intro w'; go_simp; (with_reducible rfl)
                 rotate_left
                 · simp only [Act.put, ua, ub, uc, ui, uj]; rfl
                 refine um (i := 7) (N := some 21) (v := ?_) (a' := ?_) #[Y, Y, Y, Y, Y, Y, Y, Y, X, X, X, X, X, X] rfl rfl (uh HT_.out (by kernel_rfl)) (fun _ _ _ h => h) (Or.inl ⟨by rfl, ?_⟩) ?_ ?_; rotate_left
                 · intro w'; go_simp; (with_reducible rfl)
                 rotate_left
                 · simp only [Act.put, ua, ub, uc, ui, uj]; rfl
                 refine um (i := 8) (N := some 22) (v := ?_) (a' := ?_) #[Y, Y, Y, Y, Y, Y, Y, Y, Y, X, X, X, X, X] rfl rfl (uh HT_.out (by kernel_rfl)) (fun _ _ _ h => h) (Or.inl ⟨by rfl, ?_⟩) ?_ ?_; rotate_left
                 · intro w'; go_simp; (with_reducible rfl)
                 rotate_left
                 · simp only [Act.put, ua, ub, uc, ui, uj]; rfl
                 refine xl (i := 9) (N := some 23) (v := ?_) (a' := ?_) #[Y, Y, Y, Y, Y, Y, Y, Y, Y, Y, X, X, X, X] rfl rfl (vx HT_.out HW_.out (by kernel_rfl)) (fun _ _ _ h => h) (Or.inl ⟨by rfl, ?_⟩) hHeld ?_ ?_; rotate_left
                 · rintro w' ⟨s0, s1, s2, s3⟩; go_simp; (with_reducible rfl)
                 rotate_left
                 · simp only [Act.put, ua, ub, uc, ui, uj]; rfl
                 refine xl (i := 10) (N := some 24) (v := ?_) (a' := ?_) #[Y, Y, Y, Y, Y, Y, Y, Y, Y, Y, Y, X, X, X] rfl rfl (vx HT_.out HW_.out (by kernel_rfl)) (fun _ _ _ h => h) (Or.inl ⟨by rfl, ?_⟩) hHeld ?_ ?_; rotate_left
                 · rintro w' ⟨s0, s1, s2, s3⟩; go_simp; (with_reducible rfl)
                 rotate_left
                 · simp only [Act.put, ua, ub, uc, ui, uj]; rfl
                 refine one_ (i := 11) (N := some 25) #[Y, Y, Y, Y, Y, Y, Y, Y, Y, Y, Y, Y, X, X] rfl rfl (one_of HT_.out (by kernel_rfl)) (by decide) (fun K hK => ?_); refine goes_ Try.func26 (by kernel_rfl) rfl #[.agg #[.int .u64 ((rd_T33 (rd_L5 l0 x9_1) 0).f0), .int .i64 ((rd_T33 (rd_L5 l0 x9_1) 0).f1)], .agg #[.int .u64 x102000_1, .int .i64 x102001_1]] (by rfl) rfl rfl (by (try simp only [un, uo, uq]); first | done | rfl | (simp only [ul, uk]; rfl)) ?_; (with_reducible refine (entry_Less.calls k1 ((rd_T33 (rd_L5 l0 x9_1) 0).f0) ((rd_T33 (rd_L5 l0 x9_1) 0).f1) x102000_1 x102001_1 true _ A9.out).mono ?_); rintro e w12 ⟨rfl, hb⟩; refine ⟨_, rfl, ?_⟩; have n0_ := Aside0.mk (vy (g := gb101) (o := .cells #[.int .u64 x102000_1, .int .i64 x102001_1] 33 (0, 0)) (by (with_reducible repeat (first | refine ux ?_ _ | refine uu ?_ | refine uy ?_ _)); exact BK101.out) hb); have n1_ := Aside0.mk (us (by repeat (first | (with_reducible first | exact HB.out | apply uf | apply ud | apply ue | refine ur ?_ GE101.out) | exact HB.out)) hb); clear BK101 HB; have BK101 := n0_; have HB := n1_; clear n0_ n1_; (try clear hb); (try clear hb2); (try clear hk); (try clear hi); refine hK.out _ _ ⟨(ut BK101.out 0).trans rfl, (ut BK101.out 1).trans rfl, ((HB.out.cell (World.block_lt_of_cell? w _ hw103_0)).trans hw103_0), ((HB.out.cell (World.block_lt_of_cell? w _ hw103_1)).trans hw103_1)⟩ (fun hHeld => ?_); clear hK K; refine norm_ (a' := ?_) ?_ ?_; rotate_left
                 · show Act.put _ (some 25) _ = _
                   simp only [Act.put, ua, ub, uc, ui, uj]; rfl
                 refine um (i := 12) (N := some 26) (v := ?_) (a' := ?_) #[Y, Y, Y, Y, Y, Y, Y, Y, Y, Y, Y, Y, Y, X] rfl rfl (uh HT_.out (by kernel_rfl)) (fun _ _ _ h => h) (Or.inl ⟨by rfl, ?_⟩) ?_ ?_; rotate_left
                 · intro w'; go_simp; (with_reducible rfl)
                 rotate_left
                 · simp only [Act.put, ua, ub, uc, ui, uj]; rfl
                 refine um (i := 13) (N := some 27) (v := ?_) (a' := ?_) #[Y, Y, Y, Y, Y, Y, Y, Y, Y, Y, Y, Y, Y, Y] rfl rfl (uh HT_.out (by kernel_rfl)) (fun _ _ _ h => h) (Or.inl ⟨by rfl, ?_⟩) ?_ ?_; rotate_left
                 · intro w'; go_simp; (with_reducible rfl)
                 rotate_left
                 · simp only [Act.put, ua, ub, uc, ui, uj]; rfl
                 refine done_ (xj HT_.out (by kernel_rfl)) ?_; have p105 : 0 ≤ (0 : Int) := (by omega); have q105 : 0 < ((rd_L5 l0 x9_1).length : Int) := ug (by first | (with_reducible assumption) | assumption); obtain ⟨ad105, e105, hx105_0, hx105_1⟩ := at_T33 HR102_0.out 0 p105 q105; obtain rfl : ad103 = ad105 := (by injection e105); have qi105 : (0 < (rd_L5 l0 x9_1).length) = True := eq_true (by omega); (try rw [show ((0 : Int)).toNat = 0 from rfl] at hx105_0); (try rw [show 0 * 2 = 0 from rfl] at hx105_0); (try rw [Addr.add_zero'] at hx105_0); (try rw [show ((0 : Int)).toNat = 0 from rfl] at hx105_1); (try rw [show 0 * 2 = 0 from rfl] at hx105_1); (try rw [Addr.add_zero'] at hx105_1); replace hx105_0 := (HB.out.cell (World.block_lt_of_cell? w _ hx105_0)).trans hx105_0; replace hx105_1 := (HB.out.cell (World.block_lt_of_cell? w _ hx105_1)).trans hx105_1; replace p105 := eq_true p105; replace q105 := eq_true q105; have hcz13_0 : w12.cell? ⟨gb101, 0, none⟩ = some (.int .u64 x102000_1) := (ut BK101.out 0).trans rfl; have hcz13_1 : w12.cell? ⟨gb101, 1, none⟩ = some (.int .i64 x102001_1) := (ut BK101.out 1).trans rfl; have hfz13_0 := vq BK101.out 0; have hfz13_1 := vq BK101.out 1
                 try go_wp2
                 go_roundg k1
                 case measure => have := HK1.out; omega
                 case rel => exact ⟨(x9_1), (true), (wrap64 (x9_1 + 1)), ((rd_T33 (rd_L5 l0 x9_1) 0).f0), ((rd_T33 (rd_L5 l0 x9_1) 0).f1), (by first | rfl | (simp; done) | (simp [*]; done)), (by first | rfl | (simp; done) | (simp [*]; done)), (by first | rfl | (simp; done) | (simp [*]; done)), H', ⟨by have := HK1.out; omega⟩, ⟨by (with_reducible repeat (first | refine ux ?_ _ | refine uu ?_ | refine uy ?_ _)); refine blk_put (cs := #[.int .u64 ((rd_T33 (rd_L5 l0 x9_1) 0).f0), .int .i64 x102001_1]) ?_ 1 _ rfl; (with_reducible repeat (first | refine ux ?_ _ | refine uu ?_ | refine uy ?_ _)); refine blk_put (cs := #[.int .u64 x102000_1, .int .i64 x102001_1]) ?_ 0 _ rfl; (with_reducible repeat (first | refine ux ?_ _ | refine uu ?_ | refine uy ?_ _)); exact BK101.out⟩, ⟨by repeat (first | (with_reducible first | exact HB.out | apply uf | apply ud | apply ue | refine ur ?_ GE101.out) | exact HB.out)⟩⟩
               · replace c10 := Bool.eq_false_iff.mpr c10; subst c10; (have H1 : (entry_Least.l0 k1 x3_1 true l0 (l0.length : Int) (wrap64 (x9_1 + 1)) x102000_1 x102001_1) = some (r1, r2, r3, r4) := by rw [if_neg (show ¬ (false = true) by decide)] at H; exact H); clear H; have H := H1; clear H1; have H' := Aside0.mk H; clear H; have p102 : 0 ≤ (x9_1 : Int) := ug (by first | (with_reducible assumption) | assumption); have q102 : x9_1 < (l0.length : Int) := ug (by first | (with_reducible assumption) | assumption); obtain ⟨ad102, A102_0, c102_0, e102, hx102_0, hl102_0, hi102_0⟩ := at_L5 HR0.out x9_1 p102 q102
                 cases e102
                 replace hx102_0 := (HB.out.cell (World.block_lt_of_cell? w _ hx102_0)).trans hx102_0; have HR102_0 := Aside0.mk hi102_0; have HC102_0 := Aside0.mk hl102_0; clear hi102_0 hl102_0; replace p102 := eq_true p102; replace q102 := eq_true q102
                 try go_wp2
                 have n0_ := Aside0.mk (uu BK101.out); have n1_ := Aside0.mk (ue HB.out); clear BK101 HB; have BK101 := n0_; have HB := n1_; clear n0_ n1_; have p103 : 0 ≤ (0 : Int) := (by omega); have q103 : 0 < ((rd_L5 l0 x9_1).length : Int) := ug (by first | (with_reducible assumption) | assumption); obtain ⟨ad103, e103, hx103_0, hx103_1⟩ := at_T33 HR102_0.out 0 p103 q103; have hw103_1 := hx103_1; (try rw [show ((0 : Int)).toNat = 0 from rfl] at hw103_1); (try rw [show 0 * 2 = 0 from rfl] at hw103_1); (try rw [Addr.add_zero'] at hw103_1); have hw103_0 := hx103_0; (try rw [show ((0 : Int)).toNat = 0 from rfl] at hw103_0); (try rw [show 0 * 2 = 0 from rfl] at hw103_0); (try rw [Addr.add_zero'] at hw103_0)
                 cases e103
                 have qi103 : (0 < (rd_L5 l0 x9_1).length) = True := eq_true (by omega); (try rw [show ((0 : Int)).toNat = 0 from rfl] at hx103_0); (try rw [show 0 * 2 = 0 from rfl] at hx103_0); (try rw [Addr.add_zero'] at hx103_0); (try rw [show ((0 : Int)).toNat = 0 from rfl] at hx103_1); (try rw [show 0 * 2 = 0 from rfl] at hx103_1); (try rw [Addr.add_zero'] at hx103_1); replace hx103_0 := (HB.out.cell (World.block_lt_of_cell? w _ hx103_0)).trans hx103_0; replace hx103_1 := (HB.out.cell (World.block_lt_of_cell? w _ hx103_1)).trans hx103_1; replace p103 := eq_true p103; replace q103 := eq_true q103; refine start_ (n := 14) (S := fun w' => w'.cell? ⟨gb101, 0, none⟩ = some (.int .u64 x102000_1) ∧ w'.cell? ⟨gb101, 1, none⟩ = some (.int .i64 x102001_1) ∧ w'.cell? ad103 = some (.int .u64 ((rd_T33 (rd_L5 l0 x9_1) 0).f0)) ∧ w'.cell? ⟨ad103.block, ad103.off + 1, none⟩ = some (.int .i64 ((rd_T33 (rd_L5 l0 x9_1) 0).f1))) (ds := []) #[X, X, X, X, X, X, X, X, X, X, X, X, X, X] (by kernel_rfl) rfl rfl ⟨(ut BK101.out 0).trans rfl, (ut BK101.out 1).trans rfl, ((HB.out.cell (World.block_lt_of_cell? w _ hw103_0)).trans hw103_0), ((HB.out.cell (World.block_lt_of_cell? w _ hw103_1)).trans hw103_1)⟩ (fun hHeld => ?_); refine xe entry_Least.tab4 entry_Least.bits4 (fun HT_ HW_ => ?_); generalize wr.drew = w14 at BK101 HB hx103_0 hx103_1 hHeld ⊢; refine um (i := 0) (N := some 14) (v := ?_) (a' := ?_) #[Y, X, X, X, X, X, X, X, X, X, X, X, X, X] rfl rfl (uh HT_.out (by kernel_rfl)) (fun _ _ _ h => h) (Or.inl ⟨by rfl, ?_⟩) ?_ ?_; rotate_left
                 · intro w'; go_simp; (with_reducible rfl)
                 rotate_left
                 · simp only [Act.put, ua, ub, uc, ui, uj]; rfl
                 refine um (i := 1) (N := some 15) (v := ?_) (a' := ?_) #[Y, Y, X, X, X, X, X, X, X, X, X, X, X, X] rfl rfl (uh HT_.out (by kernel_rfl)) (fun _ _ _ h => h) (Or.inl ⟨by rfl, ?_⟩) ?_ ?_; rotate_left
                 · intro w'; go_simp; (with_reducible rfl)
                 rotate_left
                 · simp only [Act.put, ua, ub, uc, ui, uj]; rfl
                 refine um (i := 2) (N := some 16) (v := ?_) (a' := ?_) #[Y, Y, Y, X, X, X, X, X, X, X, X, X, X, X] rfl rfl (uh HT_.out (by kernel_rfl)) (fun _ _ _ h => h) (Or.inl ⟨by rfl, ?_⟩) ?_ ?_; rotate_left
                 · intro w'; go_simp; (with_reducible rfl)
                 rotate_left
                 · simp only [Act.put, ua, ub, uc, ui, uj]; rfl
                 refine um (i := 3) (N := some 17) (v := ?_) (a' := ?_) #[Y, Y, Y, Y, X, X, X, X, X, X, X, X, X, X] rfl rfl (uh HT_.out (by kernel_rfl)) (fun _ _ _ h => h) (Or.inl ⟨by rfl, ?_⟩) ?_ ?_; rotate_left
                 · intro w'; go_simp; (with_reducible rfl)
                 rotate_left
                 · simp only [Act.put, ua, ub, uc, ui, uj]; rfl
                 refine um (i := 4) (N := some 18) (v := ?_) (a' := ?_) #[Y, Y, Y, Y, Y, X, X, X, X, X, X, X, X, X] rfl rfl (uh HT_.out (by kernel_rfl)) (fun _ _ _ h => h) (Or.inl ⟨by rfl, ?_⟩) ?_ ?_; rotate_left
                 · intro w'; go_simp; (with_reducible rfl)
                 rotate_left
                 · simp only [Act.put, ua, ub, uc, ui, uj]; rfl
                 refine um (i := 5) (N := some 19) (v := ?_) (a' := ?_) #[Y, Y, Y, Y, Y, Y, X, X, X, X, X, X, X, X] rfl rfl (uh HT_.out (by kernel_rfl)) (fun _ _ _ h => h) (Or.inl ⟨by rfl, ?_⟩) ?_ ?_; rotate_left
                 · intro w'; go_simp; (with_reducible rfl)
                 rotate_left
                 · simp only [Act.put, ua, ub, uc, ui, uj]; rfl
                 refine um (i := 6) (N := some 20) (v := ?_) (a' := ?_) #[Y, Y, Y, Y, Y, Y, Y, X, X, X, X, X, X, X] rfl rfl (uh HT_.out (by kernel_rfl)) (fun _ _ _ h => h) (Or.inl ⟨by rfl, ?_⟩) ?_ ?_; rotate_left
                 · intro w'; go_simp; (with_reducible rfl)
                 rotate_left
                 · simp only [Act.put, ua, ub, uc, ui, uj]; rfl
                 refine um (i := 7) (N := some 21) (v := ?_) (a' := ?_) #[Y, Y, Y, Y, Y, Y, Y, Y, X, X, X, X, X, X] rfl rfl (uh HT_.out (by kernel_rfl)) (fun _ _ _ h => h) (Or.inl ⟨by rfl, ?_⟩) ?_ ?_; rotate_left
                 · intro w'; go_simp; (with_reducible rfl)
                 rotate_left
                 · simp only [Act.put, ua, ub, uc, ui, uj]; rfl
                 refine um (i := 8) (N := some 22) (v := ?_) (a' := ?_) #[Y, Y, Y, Y, Y, Y, Y, Y, Y, X, X, X, X, X] rfl rfl (uh HT_.out (by kernel_rfl)) (fun _ _ _ h => h) (Or.inl ⟨by rfl, ?_⟩) ?_ ?_; rotate_left
                 · intro w'; go_simp; (with_reducible rfl)
                 rotate_left
                 · simp only [Act.put, ua, ub, uc, ui, uj]; rfl
                 refine xl (i := 9) (N := some 23) (v := ?_) (a' := ?_) #[Y, Y, Y, Y, Y, Y, Y, Y, Y, Y, X, X, X, X] rfl rfl (vx HT_.out HW_.out (by kernel_rfl)) (fun _ _ _ h => h) (Or.inl ⟨by rfl, ?_⟩) hHeld ?_ ?_; rotate_left
                 · rintro w' ⟨s0, s1, s2, s3⟩; go_simp; (with_reducible rfl)
                 rotate_left
                 · simp only [Act.put, ua, ub, uc, ui, uj]; rfl
                 refine xl (i := 10) (N := some 24) (v := ?_) (a' := ?_) #[Y, Y, Y, Y, Y, Y, Y, Y, Y, Y, Y, X, X, X] rfl rfl (vx HT_.out HW_.out (by kernel_rfl)) (fun _ _ _ h => h) (Or.inl ⟨by rfl, ?_⟩) hHeld ?_ ?_; rotate_left
                 · rintro w' ⟨s0, s1, s2, s3⟩; go_simp; (with_reducible rfl)
                 rotate_left
                 · simp only [Act.put, ua, ub, uc, ui, uj]; rfl
                 refine one_ (i := 11) (N := some 25) #[Y, Y, Y, Y, Y, Y, Y, Y, Y, Y, Y, Y, X, X] rfl rfl (one_of HT_.out (by kernel_rfl)) (by decide) (fun K hK => ?_); refine goes_ Try.func26 (by kernel_rfl) rfl #[.agg #[.int .u64 ((rd_T33 (rd_L5 l0 x9_1) 0).f0), .int .i64 ((rd_T33 (rd_L5 l0 x9_1) 0).f1)], .agg #[.int .u64 x102000_1, .int .i64 x102001_1]] (by rfl) rfl rfl (by (try simp only [un, uo, uq]); first | done | rfl | (simp only [ul, uk]; rfl)) ?_; (with_reducible refine (entry_Less.calls k1 ((rd_T33 (rd_L5 l0 x9_1) 0).f0) ((rd_T33 (rd_L5 l0 x9_1) 0).f1) x102000_1 x102001_1 false _ A9.out).mono ?_); rintro e w15 ⟨rfl, hb⟩; refine ⟨_, rfl, ?_⟩; have n0_ := Aside0.mk (vy (g := gb101) (o := .cells #[.int .u64 x102000_1, .int .i64 x102001_1] 33 (0, 0)) (by (with_reducible repeat (first | refine ux ?_ _ | refine uu ?_ | refine uy ?_ _)); exact BK101.out) hb); have n1_ := Aside0.mk (us (by repeat (first | (with_reducible first | exact HB.out | apply uf | apply ud | apply ue | refine ur ?_ GE101.out) | exact HB.out)) hb); clear BK101 HB; have BK101 := n0_; have HB := n1_; clear n0_ n1_; (try clear hb); (try clear hb2); (try clear hk); (try clear hi); refine hK.out _ _ ⟨(ut BK101.out 0).trans rfl, (ut BK101.out 1).trans rfl, ((HB.out.cell (World.block_lt_of_cell? w _ hw103_0)).trans hw103_0), ((HB.out.cell (World.block_lt_of_cell? w _ hw103_1)).trans hw103_1)⟩ (fun hHeld => ?_); clear hK K; refine norm_ (a' := ?_) ?_ ?_; rotate_left
                 · show Act.put _ (some 25) _ = _
                   simp only [Act.put, ua, ub, uc, ui, uj]; rfl
                 refine um (i := 12) (N := some 26) (v := ?_) (a' := ?_) #[Y, Y, Y, Y, Y, Y, Y, Y, Y, Y, Y, Y, Y, X] rfl rfl (uh HT_.out (by kernel_rfl)) (fun _ _ _ h => h) (Or.inl ⟨by rfl, ?_⟩) ?_ ?_; rotate_left
                 · intro w'; go_simp; (with_reducible rfl)
                 rotate_left
                 · simp only [Act.put, ua, ub, uc, ui, uj]; rfl
                 refine um (i := 13) (N := some 27) (v := ?_) (a' := ?_) #[Y, Y, Y, Y, Y, Y, Y, Y, Y, Y, Y, Y, Y, Y] rfl rfl (uh HT_.out (by kernel_rfl)) (fun _ _ _ h => h) (Or.inl ⟨by rfl, ?_⟩) ?_ ?_; rotate_left
                 · intro w'; go_simp; (with_reducible rfl)
                 rotate_left
                 · simp only [Act.put, ua, ub, uc, ui, uj]; rfl
                 refine done_ (xj HT_.out (by kernel_rfl)) ?_
                 try go_wp2
                 go_roundg k1
                 case measure => have := HK1.out; omega
                 case rel => exact ⟨(x3_1), (true), (wrap64 (x9_1 + 1)), (x102000_1), (x102001_1), (by first | rfl | (simp; done) | (simp [*]; done)), (by first | rfl | (simp; done) | (simp [*]; done)), (by first | rfl | (simp; done) | (simp [*]; done)), H', ⟨by have := HK1.out; omega⟩, ⟨by (with_reducible repeat (first | refine ux ?_ _ | refine uu ?_ | refine uy ?_ _)); exact BK101.out⟩, ⟨by repeat (first | (with_reducible first | exact HB.out | apply uf | apply ud | apply ue | refine ur ?_ GE101.out) | exact HB.out)⟩⟩
             · rw [if_neg c8] at H; exact absurd H (by simp)
           · replace c7 := Bool.eq_false_iff.mpr c7; subst c7; (have H1 : (if 0 < ((rd_L5 l0 x9_1).length : Int) then (entry_Least.l0 k1 x9_1 true l0 (l0.length : Int) (wrap64 (x9_1 + 1)) ((rd_T33 (rd_L5 l0 x9_1) 0).f0) ((rd_T33 (rd_L5 l0 x9_1) 0).f1)) else (none)) = some (r1, r2, r3, r4) := by rw [if_neg (show ¬ (false = true) by decide)] at H; exact H); clear H; have H := H1; clear H1
             by_cases c16 : 0 < ((rd_L5 l0 x9_1).length : Int)
             · rw [if_pos c16] at H; have c16b0 : decide (0 < ((rd_L5 l0 x9_1).length : Int)) = true := decide_eq_true c16; have c16b1 : decide (0 < (rd_L5 l0 x9_1).length) = true := decide_eq_true (by omega); clear c16; have H' := Aside0.mk H; clear H; have p102 : 0 ≤ (x9_1 : Int) := ug (by first | (with_reducible assumption) | assumption); have q102 : x9_1 < (l0.length : Int) := ug (by first | (with_reducible assumption) | assumption); obtain ⟨ad102, A102_0, c102_0, e102, hx102_0, hl102_0, hi102_0⟩ := at_L5 HR0.out x9_1 p102 q102
               cases e102
               replace hx102_0 := (HB.out.cell (World.block_lt_of_cell? w _ hx102_0)).trans hx102_0; have HR102_0 := Aside0.mk hi102_0; have HC102_0 := Aside0.mk hl102_0; clear hi102_0 hl102_0; replace p102 := eq_true p102; replace q102 := eq_true q102
               try go_wp2
               have n0_ := Aside0.mk (uu BK101.out); have n1_ := Aside0.mk (ue HB.out); clear BK101 HB; have BK101 := n0_; have HB := n1_; clear n0_ n1_; refine start_ (n := 14) (S := fun w' => True) (ds := []) #[X, X, X, X, X, X, X, X, X, X, X, X, X, X] (by kernel_rfl) rfl rfl trivial (fun hHeld => ?_); refine xe entry_Least.tab4 entry_Least.bits4 (fun HT_ HW_ => ?_); generalize wr.drew = w17 at BK101 HB hHeld ⊢; refine um (i := 0) (N := some 14) (v := ?_) (a' := ?_) #[Y, X, X, X, X, X, X, X, X, X, X, X, X, X] rfl rfl (uh HT_.out (by kernel_rfl)) (fun _ _ _ h => h) (Or.inl ⟨by rfl, ?_⟩) ?_ ?_; rotate_left
               · intro w'; go_simp; (with_reducible rfl)
               rotate_left
               · simp only [Act.put, ua, ub, uc, ui, uj]; rfl
               refine um (i := 1) (N := some 15) (v := ?_) (a' := ?_) #[Y, Y, X, X, X, X, X, X, X, X, X, X, X, X] rfl rfl (uh HT_.out (by kernel_rfl)) (fun _ _ _ h => h) (Or.inl ⟨by rfl, ?_⟩) ?_ ?_; rotate_left
               · intro w'; go_simp; (with_reducible rfl)
               rotate_left
               · simp only [Act.put, ua, ub, uc, ui, uj]; rfl
               refine um (i := 2) (N := some 16) (v := ?_) (a' := ?_) #[Y, Y, Y, X, X, X, X, X, X, X, X, X, X, X] rfl rfl (uh HT_.out (by kernel_rfl)) (fun _ _ _ h => h) (Or.inl ⟨by rfl, ?_⟩) ?_ ?_; rotate_left
               · intro w'; go_simp; (with_reducible rfl)
               rotate_left
               · simp only [Act.put, ua, ub, uc, ui, uj]; rfl
               refine um (i := 3) (N := some 17) (v := ?_) (a' := ?_) #[Y, Y, Y, Y, X, X, X, X, X, X, X, X, X, X] rfl rfl (uh HT_.out (by kernel_rfl)) (fun _ _ _ h => h) (Or.inl ⟨by rfl, ?_⟩) ?_ ?_; rotate_left
               · intro w'; go_simp; (with_reducible rfl)
               rotate_left
               · simp only [Act.put, ua, ub, uc, ui, uj]; rfl
               refine um (i := 4) (N := some 18) (v := ?_) (a' := ?_) #[Y, Y, Y, Y, Y, X, X, X, X, X, X, X, X, X] rfl rfl (uh HT_.out (by kernel_rfl)) (fun _ _ _ h => h) (Or.inl ⟨by rfl, ?_⟩) ?_ ?_; rotate_left
               · intro w'; go_simp; (with_reducible rfl)
               rotate_left
               · simp only [Act.put, ua, ub, uc, ui, uj]; rfl
               refine um (i := 5) (N := some 19) (v := ?_) (a' := ?_) #[Y, Y, Y, Y, Y, Y, X, X, X, X, X, X, X, X] rfl rfl (uh HT_.out (by kernel_rfl)) (fun _ _ _ h => h) (Or.inl ⟨by rfl, ?_⟩) ?_ ?_; rotate_left
               · intro w'; go_simp; (with_reducible rfl)
               rotate_left
               · simp only [Act.put, ua, ub, uc, ui, uj]; rfl
               refine um (i := 6) (N := some 20) (v := ?_) (a' := ?_) #[Y, Y, Y, Y, Y, Y, Y, X, X, X, X, X, X, X] rfl rfl (uh HT_.out (by kernel_rfl)) (fun _ _ _ h => h) (Or.inl ⟨by rfl, ?_⟩) ?_ ?_; rotate_left
               · intro w'; go_simp; (with_reducible rfl)
               rotate_left
               · simp only [Act.put, ua, ub, uc, ui, uj]; rfl
               refine um (i := 7) (N := some 21) (v := undef) (a' := ?_) #[Y, Y, Y, Y, Y, Y, Y, Y, X, X, X, X, X, X] rfl rfl (uh HT_.out (by kernel_rfl)) (fun _ _ _ h => h) (Or.inr ⟨by rfl, rfl⟩) ?_ ?_; rotate_left
               · simp only [Act.put, ua, ub, uc, ui, uj]; rfl
               refine um (i := 8) (N := some 22) (v := undef) (a' := ?_) #[Y, Y, Y, Y, Y, Y, Y, Y, Y, X, X, X, X, X] rfl rfl (uh HT_.out (by kernel_rfl)) (fun _ _ _ h => h) (Or.inr ⟨by rfl, rfl⟩) ?_ ?_; rotate_left
               · simp only [Act.put, ua, ub, uc, ui, uj]; rfl
               refine um (i := 9) (N := some 23) (v := undef) (a' := ?_) #[Y, Y, Y, Y, Y, Y, Y, Y, Y, Y, X, X, X, X] rfl rfl (uh HT_.out (by kernel_rfl)) (fun _ _ _ h => h) (Or.inr ⟨by rfl, rfl⟩) ?_ ?_; rotate_left
               · simp only [Act.put, ua, ub, uc, ui, uj]; rfl
               refine um (i := 10) (N := some 24) (v := undef) (a' := ?_) #[Y, Y, Y, Y, Y, Y, Y, Y, Y, Y, Y, X, X, X] rfl rfl (uh HT_.out (by kernel_rfl)) (fun _ _ _ h => h) (Or.inr ⟨by rfl, rfl⟩) ?_ ?_; rotate_left
               · simp only [Act.put, ua, ub, uc, ui, uj]; rfl
               refine um (i := 11) (N := some 25) (v := undef) (a' := ?_) #[Y, Y, Y, Y, Y, Y, Y, Y, Y, Y, Y, Y, X, X] rfl rfl (uh HT_.out (by kernel_rfl)) (fun _ _ _ h => h) (Or.inr ⟨by rfl, rfl⟩) ?_ ?_; rotate_left
               · simp only [Act.put, ua, ub, uc, ui, uj]; rfl
               refine um (i := 12) (N := some 26) (v := ?_) (a' := ?_) #[Y, Y, Y, Y, Y, Y, Y, Y, Y, Y, Y, Y, Y, X] rfl rfl (uh HT_.out (by kernel_rfl)) (fun _ _ _ h => h) (Or.inl ⟨by rfl, ?_⟩) ?_ ?_; rotate_left
               · intro w'; go_simp; (with_reducible rfl)
               rotate_left
               · simp only [Act.put, ua, ub, uc, ui, uj]; rfl
               refine um (i := 13) (N := some 27) (v := ?_) (a' := ?_) #[Y, Y, Y, Y, Y, Y, Y, Y, Y, Y, Y, Y, Y, Y] rfl rfl (uh HT_.out (by kernel_rfl)) (fun _ _ _ h => h) (Or.inl ⟨by rfl, ?_⟩) ?_ ?_; rotate_left
               · intro w'; go_simp; (with_reducible rfl)
               rotate_left
               · simp only [Act.put, ua, ub, uc, ui, uj]; rfl
               refine done_ (xj HT_.out (by kernel_rfl)) ?_; have p106 : 0 ≤ (0 : Int) := (by omega); have q106 : 0 < ((rd_L5 l0 x9_1).length : Int) := ug (by first | (with_reducible assumption) | assumption); obtain ⟨ad106, e106, hx106_0, hx106_1⟩ := at_T33 HR102_0.out 0 p106 q106
               cases e106
               have qi106 : (0 < (rd_L5 l0 x9_1).length) = True := eq_true (by omega); (try rw [show ((0 : Int)).toNat = 0 from rfl] at hx106_0); (try rw [show 0 * 2 = 0 from rfl] at hx106_0); (try rw [Addr.add_zero'] at hx106_0); (try rw [show ((0 : Int)).toNat = 0 from rfl] at hx106_1); (try rw [show 0 * 2 = 0 from rfl] at hx106_1); (try rw [Addr.add_zero'] at hx106_1); replace hx106_0 := (HB.out.cell (World.block_lt_of_cell? w _ hx106_0)).trans hx106_0; replace hx106_1 := (HB.out.cell (World.block_lt_of_cell? w _ hx106_1)).trans hx106_1; replace p106 := eq_true p106; replace q106 := eq_true q106; have hcz18_0 : w17.cell? ⟨gb101, 0, none⟩ = some (.int .u64 x102000_1) := (ut BK101.out 0).trans rfl; have hcz18_1 : w17.cell? ⟨gb101, 1, none⟩ = some (.int .i64 x102001_1) := (ut BK101.out 1).trans rfl; have hfz18_0 := vq BK101.out 0; have hfz18_1 := vq BK101.out 1
               try go_wp2
               go_roundg k1
               case measure => have := HK1.out; omega
               case rel => exact ⟨(x9_1), (true), (wrap64 (x9_1 + 1)), ((rd_T33 (rd_L5 l0 x9_1) 0).f0), ((rd_T33 (rd_L5 l0 x9_1) 0).f1), (by first | rfl | (simp; done) | (simp [*]; done)), (by first | rfl | (simp; done) | (simp [*]; done)), (by first | rfl | (simp; done) | (simp [*]; done)), H', ⟨by have := HK1.out; omega⟩, ⟨by (with_reducible repeat (first | refine ux ?_ _ | refine uu ?_ | refine uy ?_ _)); refine blk_put (cs := #[.int .u64 ((rd_T33 (rd_L5 l0 x9_1) 0).f0), .int .i64 x102001_1]) ?_ 1 _ rfl; (with_reducible repeat (first | refine ux ?_ _ | refine uu ?_ | refine uy ?_ _)); refine blk_put (cs := #[.int .u64 x102000_1, .int .i64 x102001_1]) ?_ 0 _ rfl; (with_reducible repeat (first | refine ux ?_ _ | refine uu ?_ | refine uy ?_ _)); exact BK101.out⟩, ⟨by repeat (first | (with_reducible first | exact HB.out | apply uf | apply ud | apply ue | refine ur ?_ GE101.out) | exact HB.out)⟩⟩
             · rw [if_neg c16] at H; exact absurd H (by simp)
         · rw [if_neg c6] at H; have c6b0 : decide (0 < ((rd_L5 l0 x9_1).length : Int)) = false := decide_eq_false c6; have c6b1 : decide (0 < (rd_L5 l0 x9_1).length) = false := decide_eq_false (by omega); clear c6; have H' := Aside0.mk H; clear H; have p102 : 0 ≤ (x9_1 : Int) := ug (by first | (with_reducible assumption) | assumption); have q102 : x9_1 < (l0.length : Int) := ug (by first | (with_reducible assumption) | assumption); obtain ⟨ad102, A102_0, c102_0, e102, hx102_0, hl102_0, hi102_0⟩ := at_L5 HR0.out x9_1 p102 q102
           cases e102
           replace hx102_0 := (HB.out.cell (World.block_lt_of_cell? w _ hx102_0)).trans hx102_0; have HR102_0 := Aside0.mk hi102_0; have HC102_0 := Aside0.mk hl102_0; clear hi102_0 hl102_0; replace p102 := eq_true p102; replace q102 := eq_true q102
           try go_wp2
           have n0_ := Aside0.mk (uu BK101.out); have n1_ := Aside0.mk (ue HB.out); clear BK101 HB; have BK101 := n0_; have HB := n1_; clear n0_ n1_; refine start_ (n := 14) (S := fun w' => True) (ds := []) #[X, X, X, X, X, X, X, X, X, X, X, X, X, X] (by kernel_rfl) rfl rfl trivial (fun hHeld => ?_); refine xe entry_Least.tab4 entry_Least.bits4 (fun HT_ HW_ => ?_); generalize wr.drew = w19 at BK101 HB hHeld ⊢; refine um (i := 0) (N := some 14) (v := ?_) (a' := ?_) #[Y, X, X, X, X, X, X, X, X, X, X, X, X, X] rfl rfl (uh HT_.out (by kernel_rfl)) (fun _ _ _ h => h) (Or.inl ⟨by rfl, ?_⟩) ?_ ?_; rotate_left
           · intro w'; go_simp; (with_reducible rfl)
           rotate_left
           · simp only [Act.put, ua, ub, uc, ui, uj]; rfl
           refine um (i := 1) (N := some 15) (v := ?_) (a' := ?_) #[Y, Y, X, X, X, X, X, X, X, X, X, X, X, X] rfl rfl (uh HT_.out (by kernel_rfl)) (fun _ _ _ h => h) (Or.inl ⟨by rfl, ?_⟩) ?_ ?_; rotate_left
           · intro w'; go_simp; (with_reducible rfl)
           rotate_left
           · simp only [Act.put, ua, ub, uc, ui, uj]; rfl
           refine um (i := 2) (N := some 16) (v := ?_) (a' := ?_) #[Y, Y, Y, X, X, X, X, X, X, X, X, X, X, X] rfl rfl (uh HT_.out (by kernel_rfl)) (fun _ _ _ h => h) (Or.inl ⟨by rfl, ?_⟩) ?_ ?_; rotate_left
           · intro w'; go_simp; (with_reducible rfl)
           rotate_left
           · simp only [Act.put, ua, ub, uc, ui, uj]; rfl
           refine um (i := 3) (N := some 17) (v := ?_) (a' := ?_) #[Y, Y, Y, Y, X, X, X, X, X, X, X, X, X, X] rfl rfl (uh HT_.out (by kernel_rfl)) (fun _ _ _ h => h) (Or.inl ⟨by rfl, ?_⟩) ?_ ?_; rotate_left
           · intro w'; go_simp; (with_reducible rfl)
           rotate_left
           · simp only [Act.put, ua, ub, uc, ui, uj]; rfl
           refine um (i := 4) (N := some 18) (v := undef) (a' := ?_) #[Y, Y, Y, Y, Y, X, X, X, X, X, X, X, X, X] rfl rfl (uh HT_.out (by kernel_rfl)) (fun _ _ _ h => h) (Or.inr ⟨by rfl, rfl⟩) ?_ ?_; rotate_left
           · simp only [Act.put, ua, ub, uc, ui, uj]; rfl
           refine um (i := 5) (N := some 19) (v := undef) (a' := ?_) #[Y, Y, Y, Y, Y, Y, X, X, X, X, X, X, X, X] rfl rfl (uh HT_.out (by kernel_rfl)) (fun _ _ _ h => h) (Or.inr ⟨by rfl, rfl⟩) ?_ ?_; rotate_left
           · simp only [Act.put, ua, ub, uc, ui, uj]; rfl
           refine um (i := 6) (N := some 20) (v := undef) (a' := ?_) #[Y, Y, Y, Y, Y, Y, Y, X, X, X, X, X, X, X] rfl rfl (uh HT_.out (by kernel_rfl)) (fun _ _ _ h => h) (Or.inr ⟨by rfl, rfl⟩) ?_ ?_; rotate_left
           · simp only [Act.put, ua, ub, uc, ui, uj]; rfl
           refine um (i := 7) (N := some 21) (v := undef) (a' := ?_) #[Y, Y, Y, Y, Y, Y, Y, Y, X, X, X, X, X, X] rfl rfl (uh HT_.out (by kernel_rfl)) (fun _ _ _ h => h) (Or.inr ⟨by rfl, rfl⟩) ?_ ?_; rotate_left
           · simp only [Act.put, ua, ub, uc, ui, uj]; rfl
           refine um (i := 8) (N := some 22) (v := undef) (a' := ?_) #[Y, Y, Y, Y, Y, Y, Y, Y, Y, X, X, X, X, X] rfl rfl (uh HT_.out (by kernel_rfl)) (fun _ _ _ h => h) (Or.inr ⟨by rfl, rfl⟩) ?_ ?_; rotate_left
           · simp only [Act.put, ua, ub, uc, ui, uj]; rfl
           refine um (i := 9) (N := some 23) (v := undef) (a' := ?_) #[Y, Y, Y, Y, Y, Y, Y, Y, Y, Y, X, X, X, X] rfl rfl (uh HT_.out (by kernel_rfl)) (fun _ _ _ h => h) (Or.inr ⟨by rfl, rfl⟩) ?_ ?_; rotate_left
           · simp only [Act.put, ua, ub, uc, ui, uj]; rfl
           refine um (i := 10) (N := some 24) (v := undef) (a' := ?_) #[Y, Y, Y, Y, Y, Y, Y, Y, Y, Y, Y, X, X, X] rfl rfl (uh HT_.out (by kernel_rfl)) (fun _ _ _ h => h) (Or.inr ⟨by rfl, rfl⟩) ?_ ?_; rotate_left
           · simp only [Act.put, ua, ub, uc, ui, uj]; rfl
           refine um (i := 11) (N := some 25) (v := undef) (a' := ?_) #[Y, Y, Y, Y, Y, Y, Y, Y, Y, Y, Y, Y, X, X] rfl rfl (uh HT_.out (by kernel_rfl)) (fun _ _ _ h => h) (Or.inr ⟨by rfl, rfl⟩) ?_ ?_; rotate_left
           · simp only [Act.put, ua, ub, uc, ui, uj]; rfl
           refine um (i := 12) (N := some 26) (v := undef) (a' := ?_) #[Y, Y, Y, Y, Y, Y, Y, Y, Y, Y, Y, Y, Y, X] rfl rfl (uh HT_.out (by kernel_rfl)) (fun _ _ _ h => h) (Or.inr ⟨by rfl, rfl⟩) ?_ ?_; rotate_left
           · simp only [Act.put, ua, ub, uc, ui, uj]; rfl
           refine um (i := 13) (N := some 27) (v := ?_) (a' := ?_) #[Y, Y, Y, Y, Y, Y, Y, Y, Y, Y, Y, Y, Y, Y] rfl rfl (uh HT_.out (by kernel_rfl)) (fun _ _ _ h => h) (Or.inl ⟨by rfl, ?_⟩) ?_ ?_; rotate_left
           · intro w'; go_simp; (with_reducible rfl)
           rotate_left
           · simp only [Act.put, ua, ub, uc, ui, uj]; rfl
           refine done_ (xj HT_.out (by kernel_rfl)) ?_
           try go_wp2
           go_roundg k1
           case measure => have := HK1.out; omega
           case rel => exact ⟨(x3_1), (x4_1), (wrap64 (x9_1 + 1)), (x102000_1), (x102001_1), (by first | rfl | (simp; done) | (simp [*]; done)), (by first | rfl | (simp; done) | (simp [*]; done)), (by first | rfl | (simp; done) | (simp [*]; done)), H', ⟨by have := HK1.out; omega⟩, ⟨by (with_reducible repeat (first | refine ux ?_ _ | refine uu ?_ | refine uy ?_ _)); exact BK101.out⟩, ⟨by repeat (first | (with_reducible first | exact HB.out | apply uf | apply ud | apply ue | refine ur ?_ GE101.out) | exact HB.out)⟩⟩
       · rw [if_neg c5] at H; exact absurd H (by simp)
     · rw [if_neg c4] at H; exact absurd H (by simp)
   · rw [if_neg c3] at H; have c3b0 : decide (x9_1 < (l0.length : Int)) = false := decide_eq_false c3; clear c3; simp only [Option.some.injEq, Prod.mk.injEq] at H; obtain ⟨rfl, rfl, rfl, rfl⟩ := H; have hcz20_0 : wr.cell? ⟨gb101, 0, none⟩ = some (.int .u64 x102000_1) := (ut BK101.out 0).trans rfl; have hcz20_1 : wr.cell? ⟨gb101, 1, none⟩ = some (.int .i64 x102001_1) := (ut BK101.out 1).trans rfl; have hfz20_0 := vq BK101.out 0; have hfz20_1 := vq BK101.out 1
     go_wp2
     refine bodyPost_ret (results_ctt rfl _ _ gb101 33 #[.int .u64 x102000_1, .int .i64 x102001_1] (0, 0) _ rfl (by (with_reducible repeat (first | refine ux ?_ _ | refine uu ?_ | refine uy ?_ _)); refine blk_put (cs := #[.int .u64 x102000_1, .int .i64 x102001_1]) ?_ 1 _ rfl; (with_reducible repeat (first | refine ux ?_ _ | refine uu ?_ | refine uy ?_ _)); refine blk_put (cs := #[.int .u64 x102000_1, .int .i64 x102001_1]) ?_ 0 _ rfl; (with_reducible repeat (first | refine ux ?_ _ | refine uu ?_ | refine uy ?_ _)); exact BK101.out) Try.underlying33 rfl (by kernel_rfl)) rfl ?_; exact ⟨by first | rfl | (simp [errW_none, errW_some] <;> rfl) | (simp [*, errW_none, errW_some] <;> rfl), by repeat (first | (with_reducible first | exact HB.out | apply uf | apply ud | apply ue | refine ur ?_ GE101.out) | exact HB.out)⟩
end Go.Proofs.Ytfhapffjnafkbaa.V
