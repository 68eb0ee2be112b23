-- a text of this work, without what this claim doesn't use (wip/shake.py)
import Derived.Test.YtidjppjijeepnaaBVPcmp
import Derived.WalkSpells
import Derived.Lib.SliceRun
import Derived.Maps.OwnSet
import Derived.IntWalk
import Derived.Deep.DeepCutAuto
section
namespace Go.Proofs.Ytidjppjijeepnaa.V
open Go.RowKit Go.Proofs.YtidjppjijeepnaaW.PrintWords Go.Proofs.YtidjppjijeepnaaW.PrintLast Go.Proofs.YtidjppjijeepnaaW.PrintMore
attribute [local go_sem] max2_int min2_int max_two min_two max_three min_three max_four min_four
set_option linter.unusedVariables false
set_option linter.unusedSimpArgs false
def entry_compare.f (k : Nat) (a0_0 : Int) (a0_1 : Int) (a1_0 : Int) (a1_1 : Int) : Option (Int) := (cmp_Compare_uint64.f a0_0 a1_0).bind fun t103 => ((cmp_Compare_int.f a0_1 a1_1).bind fun t104 => ((cmp_Or_int.f k (([t103, t104] : List Int))).bind fun t108 => (some t108)))
def entry_compare.T1 : Bool × List (List Nat × List Nat) := (true, [([], []), ([0], [0]), ([], []), ([2], [2]), ([1, 3], [1, 3]), ([], []), ([5], [5]), ([], []), ([7], [7]), ([6, 8, 4], [6, 8]), ([4, 9], [4, 9]), ([10, 9], [10]), ([11, 11, 0, 1, 2, 3, 4, 5, 6, 7, 8, 9, 10, 11], [11])])
def entry_compare.B1 : List Nat := [0, 1, 0, 4, 15, 0, 32, 0, 128, 511, 1023, 2047, 4095]
theorem entry_compare.tab1 : rtab .any (opsOf Try.f22 1) = entry_compare.T1 := by kernel_rfl
theorem entry_compare.bits1 : waitsOk entry_compare.T1.2 entry_compare.B1 = true := by kernel_rfl
set_option maxHeartbeats 8000000 in
set_option maxRecDepth 100000 in
theorem entry_compare.calls (k : Nat) (a0_0 : Int) (a0_1 : Int) (a1_0 : Int) (a1_1 : Int) (r : Int) (w : World) (h : entry_compare.f k a0_0 a0_1 a1_0 a1_1 = some r) :
 Calls Try.prog 22 #[.agg #[.int .u64 a0_0, .int .i64 a0_1], .agg #[.int .u64 a1_0, .int .i64 a1_1]] w fun e w' => e = .returned (.int .i64 r) ∧ Below w.heap.size w w' := by
 have hu39 := Try.underlying39; have HB := Aside0.mk (Below.refl w.heap.size w); have H : ((cmp_Compare_uint64.f a0_0 a1_0).bind fun t103 => ((cmp_Compare_int.f a0_1 a1_1).bind fun t104 => ((cmp_Or_int.f k (([t103, t104] : List Int))).bind fun t108 => (some t108)))) = some r := h; clear h; replace H := Option.bind_eq_some_iff.mp H; obtain ⟨t103, A30, H⟩ := H; replace H : ((cmp_Compare_int.f a0_1 a1_1).bind fun t104 => ((cmp_Or_int.f k (([t103, t104] : List Int))).bind fun t108 => (some t108))) = some r := H; have A3 := Aside0.mk A30; clear A30; replace H := Option.bind_eq_some_iff.mp H; obtain ⟨t104, A40, H⟩ := H; replace H : ((cmp_Or_int.f k (([t103, t104] : List Int))).bind fun t108 => (some t108)) = some r := H; have A4 := Aside0.mk A40; clear A40; obtain ⟨y105, hy105⟩ : ∃ y_ : List Int, y_ = (([t103, t104] : List Int)) := ⟨_, rfl⟩; (replace H : ((cmp_Or_int.f k y105).bind fun t108 => (some t108)) = some r := by first | (rw [hy105]; with_reducible exact H) | (have H2_ := (Option.bind_some _ _).symm.trans H; rw [hy105]; with_reducible exact H2_) | (have H2_ := (Option.bind_some _ _).symm.trans H; with_reducible exact H2_) | with_reducible exact H | (rw [hy105]; exact H) | exact H); have Ny105 := Aside0.mk hy105; clear hy105; replace H := Option.bind_eq_some_iff.mp H; obtain ⟨t108, A50, H⟩ := H; replace H : (some t108) = some r := H; have A5 := Aside0.mk A50; clear A50; obtain rfl := Option.some.inj H; go_enter Try.func22, Try.ntmps22
 try go_wp2_with (first | ((with_reducible refine gate_dst (N := 2) rfl ?_); refine box_event ?hg (N := 2) ?hd (cs := #[.int .u64 a0_0, .int .i64 a0_1]) (t := 39) ?hr ?_; (case hd => rfl); (case hg => rfl); (case hr => first | (go_simp; done) | (go_simp; rfl)); intro gb101 hg w6 hbox hb; have n0_ := Aside0.mk (uv (by repeat (first | (with_reducible first | exact HB.out | apply ue | apply ud | apply uf) | exact HB.out)) hb); have n1_ := Aside0.mk (hbox); have n2_ := Aside0.mk ((by rw [hg]; exact (uu (by repeat (first | (with_reducible first | exact HB.out | apply ue | apply ud | apply uf) | exact HB.out))) : w.heap.size ≤ gb101)); have n3_ := Aside0.mk ((by rw [hg]; exact (uu (by repeat (first | (with_reducible first | exact HB.out | apply ue | apply ud | apply uf) | exact HB.out))) : w.heap.size ≤ gb101)); clear HB; have HB := n0_; have BK101 := n1_; have GW101 := n2_; have GE101 := n3_; clear n0_ n1_ n2_ n3_; clear hb hbox hg) | ((with_reducible refine gate_dst (N := 3) rfl ?_); refine box_event ?hg (N := 3) ?hd (cs := #[.int .u64 a1_0, .int .i64 a1_1]) (t := 39) ?hr ?_; (case hd => rfl); (case hg => rfl); (case hr => first | (go_simp; done) | (go_simp; rfl)); intro gb102 hg w7 hbox hb; have n0_ := Aside0.mk (blk_below (g := gb101) (o := .cells #[.int .u64 a0_0, .int .i64 a0_1] 39 (0, 0)) (by (with_reducible repeat (first | refine blk_drewN ?_ _ | refine blk_drew ?_ | refine blk_alloc ?_ _)); exact BK101.out) hb); have n1_ := Aside0.mk (uv (by repeat (first | (with_reducible first | exact HB.out | apply ue | apply ud | apply uf | refine uw ?_ GE101.out) | exact HB.out)) hb); have n2_ := Aside0.mk (hbox); have n3_ := Aside0.mk ((by rw [hg]; exact (uu (by repeat (first | (with_reducible first | exact HB.out | apply ue | apply ud | apply uf | refine uw ?_ GE101.out) | exact HB.out))) : w.heap.size ≤ gb102)); have n4_ := Aside0.mk ((by rw [hg]; exact (uu (by repeat (first | (with_reducible first | exact HB.out | apply ue | apply ud | apply uf | refine uw ?_ GE101.out) | exact HB.out))) : w.heap.size ≤ gb102)); have n5_ := Aside0.mk ((by rw [hg]; exact Nat.ne_of_lt (blk_lt (g := gb101) (o := .cells #[.int .u64 a0_0, .int .i64 a0_1] 39 (0, 0)) (by (with_reducible repeat (first | refine blk_drewN ?_ _ | refine blk_drew ?_ | refine blk_alloc ?_ _)); exact BK101.out)) : gb101 ≠ gb102)); have n6_ := Aside0.mk ((by rw [hg]; exact Nat.ne_of_gt (blk_lt (g := gb101) (o := .cells #[.int .u64 a0_0, .int .i64 a0_1] 39 (0, 0)) (by (with_reducible repeat (first | refine blk_drewN ?_ _ | refine blk_drew ?_ | refine blk_alloc ?_ _)); exact BK101.out)) : gb102 ≠ gb101)); clear BK101; clear HB; have BK101 := n0_; have HB := n1_; have BK102 := n2_; have GW102 := n3_; have GE102 := n4_; have NB101_102 := n5_; have NB102_101 := n6_; clear n0_ n1_ n2_ n3_ n4_ n5_ n6_; clear hb hbox hg))
 have n0_ := Aside0.mk (blk_drew BK101.out); have n1_ := Aside0.mk (blk_drew BK102.out); have n2_ := Aside0.mk (uf HB.out); clear BK101 BK102 HB; have BK101 := n0_; have BK102 := n1_; have HB := n2_; clear n0_ n1_ n2_; refine start_ (n := 13) (S := fun w' => w'.cell? ⟨gb101, 0, none⟩ = some (.int .u64 a0_0) ∧ w'.cell? ⟨gb101, 1, none⟩ = some (.int .i64 a0_1) ∧ w'.cell? ⟨gb102, 0, none⟩ = some (.int .u64 a1_0) ∧ w'.cell? ⟨gb102, 1, none⟩ = some (.int .i64 a1_1)) (ds := []) #[xX, xX, xX, xX, xX, xX, xX, xX, xX, xX, xX, xX, xX] (by kernel_rfl) rfl rfl ⟨(ul BK101.out 0).trans rfl, (ul BK101.out 1).trans rfl, (ul BK102.out 0).trans rfl, (ul BK102.out 1).trans rfl⟩ (fun hHeld => ?_); refine with_tabW entry_compare.tab1 entry_compare.bits1 (fun HT_ HW_ => ?_); generalize w7.drew = w8 at BK101 BK102 HB hHeld ⊢; refine pU (i := 0) (N := some 5) (bA 13 1) (any_of HT_.out (by kernel_rfl)) rfl ?_
 refine pU (i := 2) (N := some 7) (bA 13 5) (any_of HT_.out (by kernel_rfl)) rfl ?_
 refine pU (i := 5) (N := some 10) (bA 13 37) (any_of HT_.out (by kernel_rfl)) rfl ?_
 refine pU (i := 7) (N := some 12) (bA 13 165) (any_of HT_.out (by kernel_rfl)) rfl ?_
 refine tU (i := 1) (N := some 6) (bA 13 167) (take_ofW HT_.out HW_.out (by kernel_rfl)) rfl hHeld (by (constructor; (rintro w' ⟨s0, s1, s2, s3⟩; go_simp; (with_reducible rfl)); (simp only [Act.put, ua, ub, uc, uh, ui]; rfl))) ?_
 refine tU (i := 3) (N := some 8) (bA 13 175) (take_ofW HT_.out HW_.out (by kernel_rfl)) rfl hHeld (by (constructor; (rintro w' ⟨s0, s1, s2, s3⟩; go_simp; (with_reducible rfl)); (simp only [Act.put, ua, ub, uc, uh, ui]; rfl))) ?_
 refine tU (i := 6) (N := some 11) (bA 13 239) (take_ofW HT_.out HW_.out (by kernel_rfl)) rfl hHeld (by (constructor; (rintro w' ⟨s0, s1, s2, s3⟩; go_simp; (with_reducible rfl)); (simp only [Act.put, ua, ub, uc, uh, ui]; rfl))) ?_
 refine tU (i := 8) (N := some 13) (bA 13 495) (take_ofW HT_.out HW_.out (by kernel_rfl)) rfl hHeld (by (constructor; (rintro w' ⟨s0, s1, s2, s3⟩; go_simp; (with_reducible rfl)); (simp only [Act.put, ua, ub, uc, uh, ui]; rfl))) ?_
 refine one_ (i := 4) (N := some 9) #[yY, yY, yY, yY, yY, yY, yY, yY, yY, xX, xX, xX, xX] rfl rfl (one_of HT_.out (by kernel_rfl)) (by decide) (fun K hK => ?_); refine goes_ Try.func29 (by kernel_rfl) rfl #[.int .u64 a0_0, .int .u64 a1_0] (by rfl) rfl rfl (by (try simp only [ug, uo, up]); first | done | rfl | (simp only [uk, uj]; rfl)) ?_; (with_reducible refine (cmp_Compare_uint64.calls a0_0 a1_0 t103 _ A3.out).mono ?_); rintro e w' ⟨rfl, ⟨nd, rfl⟩⟩; refine ⟨_, rfl, ?_⟩; refine hK.out _ _ ⟨(ul BK101.out 0).trans rfl, (ul BK101.out 1).trans rfl, (ul BK102.out 0).trans rfl, (ul BK102.out 1).trans rfl⟩ (fun hHeld => ?_); clear hK K; refine norm_ (a' := ?_) ?_ ?_; rotate_left
 · show Act.put _ (some 9) _ = _
   simp only [Act.put, ua, ub, uc, uh, ui]; rfl
 refine one_ (i := 9) (N := some 14) #[yY, yY, yY, yY, yY, yY, yY, yY, yY, yY, xX, xX, xX] rfl rfl (one_of HT_.out (by kernel_rfl)) (by decide) (fun K hK => ?_); refine goes_ Try.func30 (by kernel_rfl) rfl #[.int .i64 a0_1, .int .i64 a1_1] (by rfl) rfl rfl (by (try simp only [ug, uo, up]); first | done | rfl | (simp only [uk, uj]; rfl)) ?_; (with_reducible refine (cmp_Compare_int.calls a0_1 a1_1 t104 _ A4.out).mono ?_); rintro e w' ⟨rfl, ⟨nd, rfl⟩⟩; refine ⟨_, rfl, ?_⟩; refine hK.out _ _ ⟨(ul BK101.out 0).trans rfl, (ul BK101.out 1).trans rfl, (ul BK102.out 0).trans rfl, (ul BK102.out 1).trans rfl⟩ (fun hHeld => ?_); clear hK K; refine norm_ (a' := ?_) ?_ ?_; rotate_left
 · show Act.put _ (some 14) _ = _
   simp only [Act.put, ua, ub, uc, uh, ui]; rfl
 refine one_ (i := 10) (N := some 15) #[yY, yY, yY, yY, yY, yY, yY, yY, yY, yY, yY, xX, xX] rfl rfl (one_of HT_.out (by kernel_rfl)) (by decide) (fun K hK => ?_); refine Kd.R_lit_step (Kd.int .i64) _ 3 ?hg (N := 15) ?hd (xs := ([t103, t104] : List Int)) (inner := [.int .i64 t103, .int .i64 t104]) (ok := fun _ => True) (okp := fun _ => True) ?hr ?hp (fun _ hk => hk) trivial (Below.refl _ _) (Nat.le_refl _) (by simp) ?_; (case hd => rfl); (case hg => rfl); (case hr => first | (go_simp; done) | (go_simp; rfl)); (case hp => exact (Reps.one (show Kd.M (Kd.int .i64) _ _ _ t103 [.int .i64 t103] from rfl) (Reps.one (show Kd.M (Kd.int .i64) _ _ _ t104 [.int .i64 t104] from rfl) (Reps.none _ _)))); intro v106 w9 ho10 hb hg_ hnew_; clear hg_ hnew_; (first | rw [← Ny105.out] at ho10 | (simp only [Int.reduceToNat] at ho10; rw [← Ny105.out] at ho10)); have n0_ := Aside0.mk (Kd.R_lower ho10 (uu (by repeat (first | (with_reducible first | exact HB.out | apply ue | apply ud | apply uf | refine uw ?_ GE101.out | refine uw ?_ GE102.out) | exact HB.out)))); have n1_ := Aside0.mk (blk_below (g := gb101) (o := .cells #[.int .u64 a0_0, .int .i64 a0_1] 39 (0, 0)) (by (with_reducible repeat (first | refine blk_drewN ?_ _ | refine blk_drew ?_ | refine blk_alloc ?_ _)); exact BK101.out) hb); have n2_ := Aside0.mk (blk_below (g := gb102) (o := .cells #[.int .u64 a1_0, .int .i64 a1_1] 39 (0, 0)) (by (with_reducible repeat (first | refine blk_drewN ?_ _ | refine blk_drew ?_ | refine blk_alloc ?_ _)); exact BK102.out) hb); have n3_ := Aside0.mk (uv (by repeat (first | (with_reducible first | exact HB.out | apply ue | apply ud | apply uf | refine uw ?_ GE101.out | refine uw ?_ GE102.out) | exact HB.out)) hb); clear BK101 BK102 HB; have HO107 := n0_; have BK101 := n1_; have BK102 := n2_; have HB := n3_; clear n0_ n1_ n2_ n3_ hb ho10; obtain ⟨Ao11, co11, eo11⟩ := Kd.R_slice HO107.out; (first | subst eo11 | (injection eo11 with f1_ f2_ f3_; have f4_ := f1_.symm; have f5_ := f3_.symm; clear f1_ f2_ f3_; subst f4_; subst f5_)); refine hK.out _ _ ⟨(ul BK101.out 0).trans rfl, (ul BK101.out 1).trans rfl, (ul BK102.out 0).trans rfl, (ul BK102.out 1).trans rfl⟩ (fun hHeld => ?_); clear hK K; refine norm_ (a' := ?_) ?_ ?_; rotate_left
 · show Act.put _ (some 15) _ = _
   simp only [Act.put, ua, ub, uc, uh, ui]; rfl
 refine one_ (i := 11) (N := some 16) #[yY, yY, yY, yY, yY, yY, yY, yY, yY, yY, yY, yY, xX] rfl rfl (one_of HT_.out (by kernel_rfl)) (by decide) (fun K hK => ?_); refine goes_ Try.func28 (by kernel_rfl) rfl #[.slice Ao11 y105.length co11] (by rfl) rfl rfl (by (try simp only [ug, uo, up]); first | done | rfl | (simp only [uk, uj]; rfl)) ?_; (with_reducible refine (cmp_Or_int.calls k _ _ y105 t108 _ ?side1 ?side2 A5.out).mono ?_); (case side1 => repeat (first | exact (Kd.R_reads' HO107.out).2.2 | (with_reducible refine Kd.C_alloc ?_ _) | (with_reducible refine Kd.C_drewN ?_ _) | (with_reducible refine Kd.C_drew ?_))); (case side2 => exact (Kd.R_reads' HO107.out).2.1); rintro e w' ⟨rfl, ⟨nd, rfl⟩⟩; refine ⟨_, rfl, ?_⟩; refine hK.out _ _ ⟨(ul BK101.out 0).trans rfl, (ul BK101.out 1).trans rfl, (ul BK102.out 0).trans rfl, (ul BK102.out 1).trans rfl⟩ (fun hHeld => ?_); clear hK K; refine norm_ (a' := ?_) ?_ ?_; rotate_left
 · show Act.put _ (some 16) _ = _
   simp only [Act.put, ua, ub, uc, uh, ui]; rfl
 refine pU (i := 12) (N := some 4) (bA 13 8191) (any_of HT_.out (by kernel_rfl)) rfl ?_
 refine done_ (done_of HT_.out (by kernel_rfl)) ?_
 try go_wp2
 go_ret
 exact ⟨by first | rfl | (simp [errW_none, errW_some] <;> rfl) | (simp [*, errW_none, errW_some] <;> rfl), by repeat (first | (with_reducible first | exact HB.out | apply ue | apply ud | apply uf | refine uw ?_ GE101.out | refine uw ?_ GE102.out) | exact HB.out)⟩
def entry_Less.f (k : Nat) (a0_0 : Int) (a0_1 : Int) (a1_0 : Int) (a1_1 : Int) : Option (Bool) := (entry_compare.f k a0_0 a0_1 a1_0 a1_1).bind fun t103 => (some (decide (t103 < 0)))
set_option maxHeartbeats 8000000 in
set_option maxRecDepth 100000 in
theorem entry_Less.calls (k : Nat) (a0_0 : Int) (a0_1 : Int) (a1_0 : Int) (a1_1 : Int) (r : Bool) (w : World) (h : entry_Less.f k a0_0 a0_1 a1_0 a1_1 = some r) :
 Calls Try.prog 16 #[.agg #[.int .u64 a0_0, .int .i64 a0_1], .agg #[.int .u64 a1_0, .int .i64 a1_1]] w fun e w' => e = .returned (.bool r) ∧ Below w.heap.size w w' := by
 have hu39 := Try.underlying39; have HB := Aside0.mk (Below.refl w.heap.size w); have H : ((entry_compare.f k a0_0 a0_1 a1_0 a1_1).bind fun t103 => (some (decide (t103 < 0)))) = some r := h; clear h; replace H := Option.bind_eq_some_iff.mp H; obtain ⟨t103, A30, H⟩ := H; replace H : (some (decide (t103 < 0))) = some r := H; have A3 := Aside0.mk A30; clear A30; obtain rfl := Option.some.inj H; go_enter Try.func16, Try.ntmps16
 go_wp2_with (first | ((with_reducible refine gate_dst (N := 2) rfl ?_); refine box_event ?hg (N := 2) ?hd (cs := #[.int .u64 a0_0, .int .i64 a0_1]) (t := 39) ?hr ?_; (case hd => rfl); (case hg => rfl); (case hr => first | (go_simp; done) | (go_simp; rfl)); intro gb101 hg w4 hbox hb; have n0_ := Aside0.mk (uv (by repeat (first | (with_reducible first | exact HB.out | apply ue | apply ud | apply uf) | exact HB.out)) hb); have n1_ := Aside0.mk (hbox); have n2_ := Aside0.mk ((by rw [hg]; exact (uu (by repeat (first | (with_reducible first | exact HB.out | apply ue | apply ud | apply uf) | exact HB.out))) : w.heap.size ≤ gb101)); have n3_ := Aside0.mk ((by rw [hg]; exact (uu (by repeat (first | (with_reducible first | exact HB.out | apply ue | apply ud | apply uf) | exact HB.out))) : w.heap.size ≤ gb101)); clear HB; have HB := n0_; have BK101 := n1_; have GW101 := n2_; have GE101 := n3_; clear n0_ n1_ n2_ n3_; clear hb hbox hg) | ((with_reducible refine gate_dst (N := 3) rfl ?_); refine box_event ?hg (N := 3) ?hd (cs := #[.int .u64 a1_0, .int .i64 a1_1]) (t := 39) ?hr ?_; (case hd => rfl); (case hg => rfl); (case hr => first | (go_simp; done) | (go_simp; rfl)); intro gb102 hg w5 hbox hb; have n0_ := Aside0.mk (blk_below (g := gb101) (o := .cells #[.int .u64 a0_0, .int .i64 a0_1] 39 (0, 0)) (by (with_reducible repeat (first | refine blk_drewN ?_ _ | refine blk_drew ?_ | refine blk_alloc ?_ _)); exact BK101.out) hb); have n1_ := Aside0.mk (uv (by repeat (first | (with_reducible first | exact HB.out | apply ue | apply ud | apply uf | refine uw ?_ GE101.out) | exact HB.out)) hb); have n2_ := Aside0.mk (hbox); have n3_ := Aside0.mk ((by rw [hg]; exact (uu (by repeat (first | (with_reducible first | exact HB.out | apply ue | apply ud | apply uf | refine uw ?_ GE101.out) | exact HB.out))) : w.heap.size ≤ gb102)); have n4_ := Aside0.mk ((by rw [hg]; exact (uu (by repeat (first | (with_reducible first | exact HB.out | apply ue | apply ud | apply uf | refine uw ?_ GE101.out) | exact HB.out))) : w.heap.size ≤ gb102)); have n5_ := Aside0.mk ((by rw [hg]; exact Nat.ne_of_lt (blk_lt (g := gb101) (o := .cells #[.int .u64 a0_0, .int .i64 a0_1] 39 (0, 0)) (by (with_reducible repeat (first | refine blk_drewN ?_ _ | refine blk_drew ?_ | refine blk_alloc ?_ _)); exact BK101.out)) : gb101 ≠ gb102)); have n6_ := Aside0.mk ((by rw [hg]; exact Nat.ne_of_gt (blk_lt (g := gb101) (o := .cells #[.int .u64 a0_0, .int .i64 a0_1] 39 (0, 0)) (by (with_reducible repeat (first | refine blk_drewN ?_ _ | refine blk_drew ?_ | refine blk_alloc ?_ _)); exact BK101.out)) : gb102 ≠ gb101)); clear BK101; clear HB; have BK101 := n0_; have HB := n1_; have BK102 := n2_; have GW102 := n3_; have GE102 := n4_; have NB101_102 := n5_; have NB102_101 := n6_; clear n0_ n1_ n2_ n3_ n4_ n5_ n6_; clear hb hbox hg; have hnb6 := NB101_102.out; have hnc6 := NB102_101.out; have hcz7_0 : w5.cell? ⟨gb101, 0, none⟩ = some (.int .u64 a0_0) := (ul BK101.out 0).trans rfl; have hcz7_1 : w5.cell? ⟨gb101, 1, none⟩ = some (.int .i64 a0_1) := (ul BK101.out 1).trans rfl; have hfz7_0 := um BK101.out 0; have hfz7_1 := um BK101.out 1; have hcz8_0 : w5.cell? ⟨gb102, 0, none⟩ = some (.int .u64 a1_0) := (ul BK102.out 0).trans rfl; have hcz8_1 : w5.cell? ⟨gb102, 1, none⟩ = some (.int .i64 a1_1) := (ul BK102.out 1).trans rfl; have hfz8_0 := um BK102.out 0; have hfz8_1 := um BK102.out 1) | ((with_reducible refine ur (f := 22) rfl ?_); refine goesL_ (some 7) rfl rfl Try.func22 (by kernel_rfl) rfl #[.agg #[.int .u64 a0_0, .int .i64 a0_1], .agg #[.int .u64 a1_0, .int .i64 a1_1]] rfl (by (try simp only [ug, uo, up]); first | done | rfl | (simp only [uk, uj]; rfl)) ?_; (with_reducible refine (entry_compare.calls k a0_0 a0_1 a1_0 a1_1 t103 _ A3.out).mono ?_); rintro e w9 ⟨rfl, hb⟩; refine ⟨_, rfl, ?_⟩; have n0_ := Aside0.mk (blk_below (g := gb101) (o := .cells #[.int .u64 a0_0, .int .i64 a0_1] 39 (0, 0)) (by (with_reducible repeat (first | refine blk_drewN ?_ _ | refine blk_drew ?_ | refine blk_alloc ?_ _)); exact BK101.out) hb); have n1_ := Aside0.mk (blk_below (g := gb102) (o := .cells #[.int .u64 a1_0, .int .i64 a1_1] 39 (0, 0)) (by (with_reducible repeat (first | refine blk_drewN ?_ _ | refine blk_drew ?_ | refine blk_alloc ?_ _)); exact BK102.out) hb); have n2_ := Aside0.mk (uv (by repeat (first | (with_reducible first | exact HB.out | apply ue | apply ud | apply uf | refine uw ?_ GE101.out | refine uw ?_ GE102.out) | exact HB.out)) hb); clear BK101; clear BK102; clear HB; have BK101 := n0_; have BK102 := n1_; have HB := n2_; clear n0_ n1_ n2_; (try clear hb); (try clear hb2); (try clear hk); (try clear hi)))
 go_ret
 exact ⟨by first | rfl | (simp [errW_none, errW_some] <;> rfl) | (simp [*, errW_none, errW_some] <;> rfl), by repeat (first | (with_reducible first | exact HB.out | apply ue | apply ud | apply uf | refine uw ?_ GE101.out | refine uw ?_ GE102.out) | exact HB.out)⟩
end Go.Proofs.Ytidjppjijeepnaa.V
end
section
set_option linter.unusedVariables false
set_option linter.unusedSimpArgs false
namespace Go.Proofs.Ytidjppjijeepnaa.V
open Go.RowKit Go.Proofs.YtidjppjijeepnaaW.PrintWords
abbrev E := S39
theorem E.ext' {a b : E} (h0 : a.f0 = b.f0) (h1 : a.f1 = b.f1) : a = b := by cases a; cases b; simp_all
def ltE (a b : E) : Bool := decide (a.f0 < b.f0) || (decide (a.f0 = b.f0) && decide (a.f1 < b.f1))
theorem ltE_iff (a b : E) : ltE a b = true ↔ a.f0 < b.f0 ∨ (a.f0 = b.f0 ∧ a.f1 < b.f1) := by simp [ltE]
end Go.Proofs.Ytidjppjijeepnaa.V
end
section
set_option linter.unusedVariables false
set_option linter.unusedSimpArgs false
namespace Go.Proofs.Ytidjppjijeepnaa.V
open Go.RowKit Go.Proofs.YtidjppjijeepnaaW.PrintWords Go.Proofs.YtidjppjijeepnaaW.PrintLast Go.Proofs.YtidjppjijeepnaaW.PrintMore
theorem wrap_id {i : Int} (h0 : -9223372036854775808 ≤ i) (h1 : i ≤ 9223372036854775807) : wrap64 i = i := by unfold wrap64; omega
def cmpE (a b : E) : Int := if ltE a b = true then -1 else if ltE b a = true then 1 else 0
theorem cmpE_neg (a b : E) : cmpE a b < 0 ↔ ltE a b = true := by
 unfold cmpE
 split
 · simp_all
 · split <;> simp_all
theorem compare_u (a b : Int) : cmp_Compare_uint64.f a b = some (if a < b then -1 else if a > b then 1 else 0) := by
 simp only [cmp_Compare_uint64.f, cmp_isNaN_uint64.f, Option.bind_some, bne_self_eq_false, Bool.false_eq_true, if_false]
 by_cases h1 : a < b
 · simp [h1]
 · by_cases h2 : a > b <;> simp [h1, h2]
theorem compare_i (a b : Int) : cmp_Compare_int.f a b = some (if a < b then -1 else if a > b then 1 else 0) := by
 simp only [cmp_Compare_int.f, cmp_isNaN_int.f, Option.bind_some, bne_self_eq_false, Bool.false_eq_true, if_false]
 by_cases h1 : a < b
 · simp [h1]
 · by_cases h2 : a > b <;> simp [h1, h2]
theorem or_two (k : Nat) (hk : 3 ≤ k) (x y : Int) : cmp_Or_int.f k [x, y] = some (if x = 0 then y else x) := by
 obtain ⟨k, rfl⟩ : ∃ m, k = m + 3 := ⟨k - 3, by omega⟩
 unfold cmp_Or_int.f
 have e1 : wrap64 (0 + 1) = 1 := wrap_id (by omega) (by omega)
 have e2 : wrap64 (1 + 1) = 2 := wrap_id (by omega) (by omega)
 have r0 : rd [x, y] 0 = x := rfl
 have r1 : rd [x, y] 1 = y := rfl
 simp only [cmp_Or_int.l0, List.length_cons, List.length_nil]
 rw [if_pos (by decide), if_pos (by decide), if_pos (by decide), r0]
 by_cases hx : x = 0
 · rw [if_pos hx, e1, if_pos (by decide), if_pos (by decide), if_pos (by decide), r1]
   by_cases hy : y = 0
   · rw [if_pos hy, e2, if_neg (by decide), if_pos hx, hy]
   · rw [if_neg hy, if_pos hx]
 · rw [if_neg hx, if_neg hx]
theorem compare_told (k : Nat) (hk : 3 ≤ k) (a b c d : Int) : entry_compare.f k a b c d = some (cmpE ⟨a, b⟩ ⟨c, d⟩) := by
 unfold entry_compare.f
 rw [compare_u, compare_i]
 simp only [Option.bind_some]
 rw [or_two k hk]
 simp only [Option.bind_some]
 congr 1
 unfold cmpE
 simp only [ltE, Bool.or_eq_true, Bool.and_eq_true, decide_eq_true_eq]
 by_cases h1 : a < c
 · simp [h1]
 · by_cases h2 : a > c
   · have h3 : ¬ a = c := by omega
     have h4 : c < a := h2
     simp [h1, h2, h3, h4]
   · have h3 : a = c := by omega
     subst h3
     by_cases h5 : b < d
     · simp [h5]
     · by_cases h6 : b > d
       · have h7 : d < b := h6
         simp [h5, h6, h7]
       · have h7 : ¬ d < b := h6
         simp [h5, h6, h7]
theorem less_told (k : Nat) (hk : 3 ≤ k) (a b c d : Int) : entry_Less.f k a b c d = some (ltE ⟨a, b⟩ ⟨c, d⟩) := by
 unfold entry_Less.f
 rw [compare_told k hk]
 simp only [Option.bind_some]
 congr 1
 have := cmpE_neg ⟨a, b⟩ ⟨c, d⟩
 cases h : ltE ⟨a, b⟩ ⟨c, d⟩ with
 | true => exact decide_eq_true (this.2 h)
 | false => exact decide_eq_false (fun h2 => by rw [this.1 h2] at h; cases h)
end Go.Proofs.Ytidjppjijeepnaa.V
end
section
namespace Go.Proofs.Ytidjppjijeepnaa.V
open Go.RowKit Go.Proofs.YtidjppjijeepnaaW.PrintWords Go.Proofs.YtidjppjijeepnaaW.PrintLast Go.Proofs.YtidjppjijeepnaaW.PrintMore
attribute [local go_sem] max2_int min2_int max_two min_two max_three min_three max_four min_four
set_option linter.unusedVariables false
set_option linter.unusedSimpArgs false
def hist_own.f (a0_0 : Int) (a0_1 : Int) (a0_2 : Int) (a0_3 : Int) (a0_4 : Int) (a0_5 : Int) : Option (Bool) := if a0_0 = 8 then (some false) else (some (a0_0 != 9))
set_option maxHeartbeats 8000000 in
set_option maxRecDepth 100000 in
theorem hist_own.calls (a0_0 : Int) (a0_1 : Int) (a0_2 : Int) (a0_3 : Int) (a0_4 : Int) (a0_5 : Int) (r : Bool) (w : World) (h : hist_own.f a0_0 a0_1 a0_2 a0_3 a0_4 a0_5 = some r) :
 Calls Try.prog 21 #[.agg #[.int .i64 a0_0, .int .i64 a0_1, .int .i64 a0_2, .int .u64 a0_3, .int .u64 a0_4, .int .u64 a0_5]] w fun e w' => e = .returned (.bool r) ∧ Below w.heap.size w w' := by
 have hu25 := Try.underlying25; have HB := Aside0.mk (Below.refl w.heap.size w); have H : (if a0_0 = 8 then (some false) else (some (a0_0 != 9))) = some r := h; clear h
 by_cases c2 : a0_0 = 8
 · rw [if_pos c2] at H; have c2b0 : (a0_0 == 8) = true := beq_iff_eq.mpr c2; have c2b1 : (a0_0 != 8) = false := bne_eq_false_iff_eq.mpr c2; clear c2; obtain rfl := Option.some.inj H; go_enter Try.func21, Try.ntmps21
   go_wp2_with (first | ((with_reducible refine gate_dst (N := 1) rfl ?_); refine box_event ?hg (N := 1) ?hd (cs := #[.int .i64 a0_0, .int .i64 a0_1, .int .i64 a0_2, .int .u64 a0_3, .int .u64 a0_4, .int .u64 a0_5]) (t := 25) ?hr ?_; (case hd => rfl); (case hg => rfl); (case hr => first | (go_simp; done) | (go_simp; rfl)); intro gb101 hg w3 hbox hb; have n0_ := Aside0.mk (uv (by repeat (first | (with_reducible first | exact HB.out | apply ue | apply ud | apply uf) | exact HB.out)) hb); have n1_ := Aside0.mk (hbox); have n2_ := Aside0.mk ((by rw [hg]; exact (uu (by repeat (first | (with_reducible first | exact HB.out | apply ue | apply ud | apply uf) | exact HB.out))) : w.heap.size ≤ gb101)); have n3_ := Aside0.mk ((by rw [hg]; exact (uu (by repeat (first | (with_reducible first | exact HB.out | apply ue | apply ud | apply uf) | exact HB.out))) : w.heap.size ≤ gb101)); clear HB; have HB := n0_; have BK101 := n1_; have GW101 := n2_; have GE101 := n3_; clear n0_ n1_ n2_ n3_; clear hb hbox hg; have hcz4_0 : w3.cell? ⟨gb101, 0, none⟩ = some (.int .i64 a0_0) := (ul BK101.out 0).trans rfl; have hcz4_1 : w3.cell? ⟨gb101, 1, none⟩ = some (.int .i64 a0_1) := (ul BK101.out 1).trans rfl; have hcz4_2 : w3.cell? ⟨gb101, 2, none⟩ = some (.int .i64 a0_2) := (ul BK101.out 2).trans rfl; have hcz4_3 : w3.cell? ⟨gb101, 3, none⟩ = some (.int .u64 a0_3) := (ul BK101.out 3).trans rfl; have hcz4_4 : w3.cell? ⟨gb101, 4, none⟩ = some (.int .u64 a0_4) := (ul BK101.out 4).trans rfl; have hcz4_5 : w3.cell? ⟨gb101, 5, none⟩ = some (.int .u64 a0_5) := (ul BK101.out 5).trans rfl; have hfz4_0 := um BK101.out 0; have hfz4_1 := um BK101.out 1; have hfz4_2 := um BK101.out 2; have hfz4_3 := um BK101.out 3; have hfz4_4 := um BK101.out 4; have hfz4_5 := um BK101.out 5))
   go_ret
   exact ⟨by first | rfl | (simp [errW_none, errW_some] <;> rfl) | (simp [*, errW_none, errW_some] <;> rfl), by repeat (first | (with_reducible first | exact HB.out | apply ue | apply ud | apply uf | refine uw ?_ GE101.out) | exact HB.out)⟩
 · rw [if_neg c2] at H; have c2b0 : (a0_0 == 8) = false := beq_eq_false_iff_ne.mpr c2; have c2b1 : (a0_0 != 8) = true := bne_iff_ne.mpr c2; obtain rfl := Option.some.inj H; go_enter Try.func21, Try.ntmps21
   go_wp2_with (first | ((with_reducible refine gate_dst (N := 1) rfl ?_); refine box_event ?hg (N := 1) ?hd (cs := #[.int .i64 a0_0, .int .i64 a0_1, .int .i64 a0_2, .int .u64 a0_3, .int .u64 a0_4, .int .u64 a0_5]) (t := 25) ?hr ?_; (case hd => rfl); (case hg => rfl); (case hr => first | (go_simp; done) | (go_simp; rfl)); intro gb101 hg w5 hbox hb; have n0_ := Aside0.mk (uv (by repeat (first | (with_reducible first | exact HB.out | apply ue | apply ud | apply uf) | exact HB.out)) hb); have n1_ := Aside0.mk (hbox); have n2_ := Aside0.mk ((by rw [hg]; exact (uu (by repeat (first | (with_reducible first | exact HB.out | apply ue | apply ud | apply uf) | exact HB.out))) : w.heap.size ≤ gb101)); have n3_ := Aside0.mk ((by rw [hg]; exact (uu (by repeat (first | (with_reducible first | exact HB.out | apply ue | apply ud | apply uf) | exact HB.out))) : w.heap.size ≤ gb101)); clear HB; have HB := n0_; have BK101 := n1_; have GW101 := n2_; have GE101 := n3_; clear n0_ n1_ n2_ n3_; clear hb hbox hg; have hcz6_0 : w5.cell? ⟨gb101, 0, none⟩ = some (.int .i64 a0_0) := (ul BK101.out 0).trans rfl; have hcz6_1 : w5.cell? ⟨gb101, 1, none⟩ = some (.int .i64 a0_1) := (ul BK101.out 1).trans rfl; have hcz6_2 : w5.cell? ⟨gb101, 2, none⟩ = some (.int .i64 a0_2) := (ul BK101.out 2).trans rfl; have hcz6_3 : w5.cell? ⟨gb101, 3, none⟩ = some (.int .u64 a0_3) := (ul BK101.out 3).trans rfl; have hcz6_4 : w5.cell? ⟨gb101, 4, none⟩ = some (.int .u64 a0_4) := (ul BK101.out 4).trans rfl; have hcz6_5 : w5.cell? ⟨gb101, 5, none⟩ = some (.int .u64 a0_5) := (ul BK101.out 5).trans rfl; have hfz6_0 := um BK101.out 0; have hfz6_1 := um BK101.out 1; have hfz6_2 := um BK101.out 2; have hfz6_3 := um BK101.out 3; have hfz6_4 := um BK101.out 4; have hfz6_5 := um BK101.out 5))
   go_ret
   exact ⟨by first | rfl | (simp [errW_none, errW_some] <;> rfl) | (simp [*, errW_none, errW_some] <;> rfl), by repeat (first | (with_reducible first | exact HB.out | apply ue | apply ud | apply uf | refine uw ?_ GE101.out) | exact HB.out)⟩
end Go.Proofs.Ytidjppjijeepnaa.V
end
section
set_option linter.unusedVariables false
set_option linter.unusedSimpArgs false
namespace Go.Proofs.Ytidjppjijeepnaa.V
open Go.RowKit Go.Proofs.YtidjppjijeepnaaW.PrintWords Go.Proofs.YtidjppjijeepnaaW.PrintLast Go.Proofs.YtidjppjijeepnaaW.PrintMore
abbrev Cd := Nat × Nat × Nat × Nat
def mkE (c : Cd) : S25 := ⟨(c.1 : Int), if c.1 = 1 then -1 else if c.1 = 10 ∨ (c.1 = 3 ∧ c.2.2.1 = 50) then 1 else 0, (c.2.1 : Int), (c.2.2.1 : Int), (c.2.2.2 : Int), 0⟩
def nxt (id : Nat) : List Cd → Nat
  | [] => 0
  | x :: r => if (x.2.1 == id && x.1 != 10) = true then 0 else nxt id r + 1
def idAt (L : List Cd) (at_ : Nat) : Nat := match L[at_]? with | some x => x.2.1 | none => 0
def kdAt (L : List Cd) (at_ : Nat) : Nat := match L[at_]? with | some x => x.1 | none => 0
def nextN (L : List Cd) (at_ : Nat) : Nat := at_ + 1 + nxt (idAt L at_) (L.drop (at_ + 1))
def midN (L : List Cd) (at_ : Nat) : List Cd := (L.drop (at_ + 1)).take (nxt (idAt L at_) (L.drop (at_ + 1)))
def wsN : List Cd → List Nat → Nat → Nat
  | [], _, n => n
  | x :: r, S, n => if x.1 == 2 then wsN r (x.2.1 :: S) n else if x.1 == 3 && S.elem x.2.1 then wsN r S (n + 1) else wsN r S n
def waitN (L : List Cd) (at_ : Nat) : Int := if kdAt L at_ = 2 then ((wsN (midN L at_) [] 0 : Nat) : Int) else -1
def FewK (L : List Cd) : Prop := (∀ x ∈ L, (x.1 ≤ 3 ∨ x.1 = 10) ∧ x.2.1 ≤ 1000) ∧ L.length ≤ 1000
theorem nxt_le (id : Nat) (l : List Cd) : nxt id l ≤ l.length := by
 induction l with
 | nil => exact Nat.le_refl _
 | cons x r ih =>
  unfold nxt
  split
  · omega
  · rw [List.length_cons]; omega
theorem rdE (L : List Cd) (i : Nat) (c : Cd) (h : L[i]? = some c) : rd_T25 (L.map mkE) (i : Int) = mkE c := by
 unfold rd_T25
 rw [Int.toNat_natCast, List.getD_eq_getElem?_getD, List.getElem?_map, h]; rfl
theorem wrap_in {x : Int} (h0 : -4611686018427387904 ≤ x) (h1 : x < 4611686018427387904) : wrap64 x = x := by unfold wrap64; omega
theorem next_loop (L : List Cd) (hf : FewK L) (id : Nat) : ∀ (d k i : Nat), L.length - i = d → i ≤ L.length → d < k → bound_next.l0 k (L.map mkE) (i : Int) (id : Int) = some ((i + nxt id (L.drop i) : Nat) : Int) := by
 have hl := hf.2
 intro d
 induction d with
 | zero =>
  intro k i hd hi hk
  obtain ⟨k, rfl⟩ : ∃ j, k = j + 1 := ⟨k - 1, by omega⟩
  simp only [bound_next.l0, List.length_map]
  rw [if_neg (by omega), List.drop_of_length_le (by omega)]
  rfl
 | succ d ih =>
  intro k i hd hi hk
  obtain ⟨k, rfl⟩ : ∃ j, k = j + 1 := ⟨k - 1, by omega⟩
  have hlt : i < L.length := by omega
  obtain ⟨c, hc⟩ : ∃ c, L[i]? = some c := ⟨_, List.getElem?_eq_getElem hlt⟩
  have hk3 := (hf.1 c (List.mem_of_getElem? hc)).1
  have hdr : L.drop i = c :: L.drop (i + 1) := by
   rw [List.drop_eq_getElem_cons hlt]
   rw [List.getElem?_eq_getElem hlt] at hc
   injection hc with hc
   rw [hc]
  have hw : wrap64 ((i : Int) + 1) = ((i + 1 : Nat) : Int) := by rw [wrap_in (by omega) (by omega)]; push_cast; rfl
  have hih := ih k (i + 1) (by omega) (by omega) (by omega)
  simp only [bound_next.l0, List.length_map]
  rw [if_pos (by omega), if_pos (by omega), rdE L i c hc, hw, hdr]
  unfold nxt
  show (if (c.2.1 : Int) = (id : Int) then (if (c.1 : Int) = 10 then _ else if (c.1 : Int) = 8 then _ else if (c.1 : Int) = 9 then _ else _) else _) = _
  by_cases he : c.2.1 = id
  · by_cases hk10 : c.1 = 10
    · rw [if_pos (by omega), if_pos (by omega), if_neg (by simp [hk10]), hih]
      congr 2
      omega
    · rw [if_pos (by omega), if_neg (by omega), if_neg (by omega), if_neg (by omega), if_pos (by simp [he, hk10])]
      rfl
  · rw [if_neg (by omega), if_neg (by simp [he]), hih]
    congr 2
    omega
theorem next_told (k : Nat) (L : List Cd) (hf : FewK L) (hk : L.length < k) (at_ : Nat) (h : at_ < L.length) : bound_next.f k (L.map mkE) (at_ : Int) = some ((nextN L at_ : Nat) : Int) := by
 obtain ⟨c, hc⟩ : ∃ c, L[at_]? = some c := ⟨_, List.getElem?_eq_getElem h⟩
 have hl := hf.2
 unfold bound_next.f
 rw [List.length_map, if_pos (by omega), if_pos (by omega), rdE L at_ c hc, wrap_in (by omega) (by omega)]
 have := next_loop L hf c.2.1 (L.length - (at_ + 1)) k (at_ + 1) rfl (by omega) (by omega)
 show bound_next.l0 k (L.map mkE) ((at_ : Int) + 1) (c.2.1 : Int) = _
 rw [show (at_ : Int) + 1 = ((at_ + 1 : Nat) : Int) by push_cast; rfl, this]
 unfold nextN idAt
 rw [hc]
theorem is_told (L : List Cd) (at_ q : Nat) : bound_is.f (L.map mkE) (at_ : Int) (q : Int) = some (decide (at_ < L.length) && (kdAt L at_ == q)) := by
 unfold bound_is.f
 rw [List.length_map, if_pos (by omega)]
 by_cases h : at_ < L.length
 · obtain ⟨c, hc⟩ : ∃ c, L[at_]? = some c := ⟨_, List.getElem?_eq_getElem h⟩
   rw [if_pos (by omega), if_pos (by omega), rdE L at_ c hc]
   unfold kdAt
   rw [hc, decide_eq_true h, Bool.true_and]
   congr 1
   show ((c.1 : Int) == (q : Int)) = (c.1 == q)
   rw [Bool.eq_iff_iff, beq_iff_eq, beq_iff_eq]
   omega
 · rw [if_neg (by omega), decide_eq_false h]; rfl
theorem nextN_bd (L : List Cd) (at_ : Nat) (h : at_ < L.length) : at_ + 1 ≤ nextN L at_ ∧ nextN L at_ ≤ L.length := by
 have := nxt_le (idAt L at_) (L.drop (at_ + 1))
 rw [List.length_drop] at this
 unfold nextN
 omega
theorem mid_eq (L : List Cd) (at_ : Nat) : ((L.map mkE).take (nextN L at_)).drop (at_ + 1) = (midN L at_).map mkE := by
 unfold nextN midN
 rw [List.map_take, List.map_drop, List.drop_take]
 congr 1
 omega
theorem midN_few {L : List Cd} (hf : FewK L) (at_ : Nat) : FewK (midN L at_) := by
 refine ⟨fun x hx => hf.1 x ?_, ?_⟩
 · unfold midN at hx
   exact List.mem_of_mem_drop (List.mem_of_mem_take hx)
 · unfold midN
   have := hf.2
   rw [List.length_take, List.length_drop]
   omega
end Go.Proofs.Ytidjppjijeepnaa.V
end
section
set_option linter.unusedVariables false
set_option linter.unusedSimpArgs false
namespace Go.Proofs.Ytidjppjijeepnaa.V
open Go.RowKit Go.Proofs.YtidjppjijeepnaaW.PrintWords Go.Proofs.YtidjppjijeepnaaW.PrintLast Go.Proofs.YtidjppjijeepnaaW.PrintMore
open Go.Maps (Keyed IsMap)
def MapB (P : Program) (k e : TypeId) (w : World) (b n : Nat) (f : Int → Bool) : Prop :=
  ∃ D : DataW Unit, w.ownsMap P k (plainElem P e) b n D ∧ ∀ x, D.atKey (.int .i64 x) (.lit (.bool false)) = .lit (.bool (f x))
theorem MapB.made (P : Program) (k e : TypeId) (w : World) : MapB P k e (w.alloc (.map #[] 0)) w.heap.size 0 (fun _ => false) :=
 ⟨_, World.ownsMap_made _ _ _ _, fun x => rfl⟩
theorem MapB.kept {P : Program} {k e : TypeId} {w w' : World} {b n : Nat} {f : Int → Bool} {row : Option Nat} (h : MapB P k e w b n f) (hg : w.grownBy w' row) (hne : some b ≠ row) : MapB P k e w' b n f := by
 obtain ⟨D, h1, h2⟩ := h
 exact ⟨D, h1.kept hg hne, h2⟩
theorem plainElem_bool_inv {H : Type} {P : Program} {e : TypeId} (he : P.underlying e = some .bool) {v : Value} {z : DataW H × List MemPlace} (h : plainElem P e v = some z) : ∃ a, v = .bool a ∧ z = (.lit (.bool a), []) := by
 cases v <;> simp [plainElem, he] at h
 exact ⟨_, rfl, h.symm⟩
theorem MapB.look {P : Program} {k e t : TypeId} {w : World} {b n : Nat} {f : Int → Bool} (h : MapB P k e w b n f) (K : Keyed P k) (ht : P.underlying t = some (.map k e)) (he : P.underlying e = some .bool)
 (hz : (zeroValue e).run P w = .ok (.bool false) w) {x : Int} (hkey : keyOf P k (.int .i64 x) = some (.int .i64 x)) :
 (Instr.lookup t (.map (some b)) (.int .i64 x) false).run P w = .ok (.bool (f x)) w := by
 obtain ⟨D, h1, h2⟩ := h
 obtain ⟨v, ps, hrun, hv⟩ := h1.lookup K ht hz (plainElem_bool he false) hkey
 obtain ⟨a, rfl, ha⟩ := plainElem_bool_inv he hv
 simp only [Prod.mk.injEq] at ha
 rw [h2] at ha
 have e1 := ha.1
 simp only [DataW.lit.injEq, Lit.bool.injEq] at e1
 rw [e1]
 exact hrun
theorem MapB.store {P : Program} {k e t : TypeId} {w : World} {b n : Nat} {f : Int → Bool} (h : MapB P k e w b n f) (K : Keyed P k) (ht : P.underlying t = some (.map k e)) (he : P.underlying e = some .bool)
 (hn : n < maxLen) {x : Int} (hkey : keyOf P k (.int .i64 x) = some (.int .i64 x)) (v : Bool) :
 ∃ w', (Instr.mapUpdate t (.map (some b)) (.int .i64 x) (.bool v)).run P w = .ok () w' ∧ MapB P k e w' b (n + 1) (fun y => if y = x then v else f y) ∧ w.grownBy w' (some b) := by
 obtain ⟨D, h1, h2⟩ := h
 obtain ⟨w', hrun, h3, h4⟩ := h1.update K ht hn hkey (plainElem_bool he v)
 refine ⟨w', hrun, ⟨_, h3, fun y => ?_⟩, h4⟩
 by_cases hy : y = x
 · subst hy
   rw [Maps.atKey_put_same (h1.isMap) (by simp [WideAt.IsKeyLit])]
   simp
 · rw [Maps.atKey_put_other (by simpa using hy), h2]
   simp [hy]
end Go.Proofs.Ytidjppjijeepnaa.V
end
section
set_option linter.unusedVariables false
set_option linter.unusedSimpArgs false
namespace Go.Proofs.Ytidjppjijeepnaa.V
open Go.RowKit Go.Proofs.YtidjppjijeepnaaW.PrintWords Go.Proofs.YtidjppjijeepnaaW.PrintLast Go.Proofs.YtidjppjijeepnaaW.PrintMore
open Go.Maps (Keyed IsMap)
theorem lawI : Keyed Try.prog 3 := Go.Maps.int_keyed Try.underlying3
theorem wfI {n : Nat} (h : n ≤ 1000000) : (Lit.int .i64 (n : Int)).wf = true := by
 have h0 : IntKind.i64.min = -9223372036854775808 := by decide
 have h1 : IntKind.i64.max = 9223372036854775807 := by decide
 simp only [Lit.wf, decide_eq_true_eq, Bool.and_eq_true]
 rw [h0, h1]
 omega
theorem zeroB (w : World) : (zeroValue 4).run Try.prog w = .ok (.bool false) w := by
 obtain ⟨i0, hi, hz⟩ := Option.map_eq_some_iff.1 (show (Try.prog.info? 4).map (fun i => i.zero) = some (some (.bool false)) from by kernel_rfl)
 simp [zeroValue, typeInfo, hi, hz]
theorem MapB.move {P : Program} {k e : TypeId} {w w' : World} {b n : Nat} {f : Int → Bool} (h : MapB P k e w b n f) (hh : w'.heap[b]? = w.heap[b]?) : MapB P k e w' b n f := by
 obtain ⟨D, ⟨es, clock, h1, h2⟩, h3⟩ := h
 exact ⟨D, ⟨es, clock, hh.trans h1, h2⟩, h3⟩
theorem MapB.lt {P : Program} {k e : TypeId} {w : World} {b n : Nat} {f : Int → Bool} (h : MapB P k e w b n f) : b < w.heap.size := by
 obtain ⟨D, h1, h2⟩ := h
 exact h1.lt
def inS (S : List Nat) (x : Int) : Bool := S.any (fun s => (s : Int) == x)
structure WtSt (w wr : World) (b n : Nat) (S : List Nat) : Prop where
  mp : MapB Try.prog 3 4 wr b n (inS S)
  bel : Below w.heap.size w wr
  lo : w.heap.size ≤ b
theorem WtSt.below {w wr w1 : World} {b n : Nat} {S : List Nat} (h : WtSt w wr b n S) (hb : Below wr.heap.size wr w1) : WtSt w w1 b n S := ⟨h.mp.move (hb.block b h.mp.lt), below_step h.bel hb, h.lo⟩
theorem WtSt.store {w wr : World} {b n : Nat} {S : List Nat} (h : WtSt w wr b n S) (hn : n ≤ 1000) (id : Nat) (hid : id ≤ 1000) :
 ∃ w', (Instr.mapUpdate 43 (.map (some b)) (.int .i64 (id : Int)) (.bool true)).run Try.prog wr = .ok () w' ∧ WtSt w w' b (n + 1) (id :: S) := by
 obtain ⟨w', h1, h2, h3⟩ := h.mp.store (t := 43) lawI Try.underlying43 Try.underlying4 (show n < maxLen by unfold maxLen; omega) (Go.Maps.keyOf_int_mk Try.underlying3 (wfI (n := id) (by omega))) true
 refine ⟨w', h1, ⟨?_, pw_below_grown h.bel _ h.bel.size h3 (fun k hk => by injection hk with hk; rw [← hk]; exact h.lo), h.lo⟩⟩
 have he : (fun y => if y = (id : Int) then true else inS S y) = inS (id :: S) := by
  funext y
  unfold inS
  rw [List.any_cons]
  by_cases hy : y = (id : Int)
  · subst hy; simp
  · rw [if_neg hy, show ((id : Int) == y) = false by rw [beq_eq_false_iff_ne]; exact fun e => hy e.symm, Bool.false_or]
 rw [← he]
 exact h2
theorem WtSt.look {w wr : World} {b n : Nat} {S : List Nat} (h : WtSt w wr b n S) (id : Nat) (hid : id ≤ 1000) :
 (Instr.lookup 43 (.map (some b)) (.int .i64 (id : Int)) false).run Try.prog wr = .ok (.bool (inS S (id : Int))) wr :=
 h.mp.look (t := 43) lawI Try.underlying43 Try.underlying4 (zeroB wr) (Go.Maps.keyOf_int_mk Try.underlying3 (wfI (n := id) (by omega)))
theorem inS_elem (S : List Nat) (id : Nat) : inS S (id : Int) = S.elem id := by
 unfold inS
 induction S with
 | nil => rfl
 | cons s r ih =>
  rw [List.any_cons, ih, List.elem_cons]
  have : ((s : Int) == (id : Int)) = (id == s) := by rw [Bool.eq_iff_iff, beq_iff_eq, beq_iff_eq]; omega
  rw [this]
  cases (id == s) <;> rfl
theorem ev_at {w : World} {A : Option Addr} {L : List Cd} (h : Kd.C k25 w A (L.map mkE).length (L.map mkE)) {i : Nat} {x : Cd} (he : L[i]? = some x) :
 ∃ ad, A = some ad ∧ w.cell? (ad.add (i * 6)) = some (.int .i64 (x.1 : Int)) ∧ w.cell? ⟨(ad.add (i * 6)).block, (ad.add (i * 6)).off + 1, none⟩ = some (.int .i64 (mkE x).f1) ∧ w.cell? ⟨(ad.add (i * 6)).block, (ad.add (i * 6)).off + 2, none⟩ = some (.int .i64 (x.2.1 : Int)) ∧ w.cell? ⟨(ad.add (i * 6)).block, (ad.add (i * 6)).off + 3, none⟩ = some (.int .u64 (x.2.2.1 : Int)) ∧ w.cell? ⟨(ad.add (i * 6)).block, (ad.add (i * 6)).off + 4, none⟩ = some (.int .u64 (x.2.2.2 : Int)) ∧ w.cell? ⟨(ad.add (i * 6)).block, (ad.add (i * 6)).off + 5, none⟩ = some (.int .u64 0) := by
 have hlt := (List.getElem?_eq_some_iff.1 he).1
 obtain ⟨ad, e1, h0, h1, h2, h3, h4, h5⟩ := at_T25 h (i : Int) (by omega) (by rw [List.length_map]; omega)
 rw [rdE L i x he, Int.toNat_natCast] at h0 h1 h2 h3 h4 h5
 exact ⟨ad, e1, h0, h1, h2, h3, h4, h5⟩
set_option maxRecDepth 100000 in
set_option maxHeartbeats 4000000 in
theorem waited_walk (L : List Cd) (hf : FewK L) (A : Option Addr) (c : Nat) (w : World) (l : List S25) (hl : l = L.map mkE) (hr : Kd.C k25 w A l.length l) (hc : l.length ≤ c) (p : Nat) (hp : p ≤ 2000) :
 Calls Try.prog 8 #[.slice A l.length c, .int .i64 p] w fun e w' => e = .returned (.int .i64 (waitN L p)) ∧ Below w.heap.size w w' := by
 have HR := Aside0.mk hr
 have hlen : l.length = L.length := by rw [hl, List.length_map]
 have HF := Aside0.mk hf
 by_cases hk : kdAt L p = 2
 · have hlt : p < L.length := by
    rcases Nat.lt_or_ge p L.length with h | h
    · exact h
    · unfold kdAt at hk
      rw [List.getElem?_eq_none h] at hk
      cases hk
   obtain ⟨nx, hnx⟩ : ∃ nx, nextN L p = nx := ⟨_, rfl⟩
   have hnb := nextN_bd L p hlt
   rw [hnx] at hnb
   have HIS := Aside0.mk (show bound_is.f l (p : Int) 2 = some true by have := is_told L p 2; rw [← hl, hk, decide_eq_true hlt] at this; exact this)
   have HNX := Aside0.mk (show bound_next.f 2000 l (p : Int) = some (nx : Int) by rw [hl, ← hnx]; exact next_told 2000 L hf (by have := hf.2; omega) p hlt)
   obtain ⟨M, hM⟩ : ∃ M, midN L p = M := ⟨_, rfl⟩
   have HWN := Aside0.mk (show waitN L p = ((wsN M [] 0 : Nat) : Int) by unfold waitN; rw [if_pos hk, hM])
   have hme : (l.take nx).drop (p + 1) = M.map mkE := by rw [← hM, hl, ← hnx]; exact mid_eq L p
   have HMF := Aside0.mk (show FewK M by rw [← hM]; exact midN_few hf p)
   have hMl : nx - (p + 1) = M.length := by
    have := congrArg List.length hme
    rw [List.length_drop, List.length_take, List.length_map] at this
    omega
   obtain ⟨i0, hi0, _, hsz, _⟩ := info_parts info25
   obtain ⟨j, hj⟩ : ∃ j : Int, IntKind.i64.wrap ((p : Int) + 1) = j := ⟨_, rfl⟩
   have hj1 : j = (p : Int) + 1 := by rw [← hj]; exact IntWalk.i64_in _ (by omega)
   have hjn : j.toNat = p + 1 := by omega
   have hcut := cut_mid (P := Try.prog) 22 25 .i64 .i64 Try.underlying22 hi0 6 hsz A l.length c j (nx : Int) (by omega) (by omega) (by omega) hc
   have hmid := Kd.C_mid (lo := p + 1) (hi := nx) (c := c) hr (by omega) (by omega) hc
   rw [hme] at hmid
   rw [hjn, Int.toNat_natCast, hMl] at hcut
   obtain ⟨A5, hA5⟩ : ∃ A5, A5 = (if c = p + 1 then A else A.map (·.add ((p + 1) * 6))) := ⟨_, rfl⟩
   obtain ⟨c5, hc5⟩ : ∃ c5, c5 = c - (p + 1) := ⟨_, rfl⟩
   rw [← hA5, ← hc5] at hcut
   have HM := Aside0.mk (show Kd.C k25 w A5 (M.map mkE).length (M.map mkE) by rw [hA5]; exact hmid)
   have HC := Aside0.mk hc
   have hM2 : M.length ≤ 1000 := HMF.out.2
   clear hr hl hf hnb hnx hM hme hMl hi0 hsz hjn hmid hA5 hc5 hj1 hlt hk hlen hc
   go_enter Try.func8, Try.ntmps8
   go_wp2_with fail
   refine (bound_is.calls A c l (p : Int) 2 true w HR.out HC.out HIS.out).mono ?_
   rintro e w1 ⟨rfl, hb⟩
   have HB1 := Aside0.mk hb.below
   clear hb
   have hmk : ∀ W : World, (Instr.makeMap 43 none).run Try.prog W = .ok (.map (some W.heap.size)) (W.alloc (.map #[] 0)) := fun W => rfl
   go_upto_region 5 with fail
   obtain ⟨b, hb⟩ : ∃ b, b = w1.heap.size := ⟨_, rfl⟩
   obtain ⟨wz, hwz⟩ : ∃ wz, wz = w1.alloc (.map #[] 0) := ⟨_, rfl⟩
   have HST := Aside0.mk (show WtSt w wz b 0 [] from by rw [hwz, hb]; exact ⟨MapB.made _ _ _ _, below_step HB1.out (below_alloc (Below.refl _ _) _), HB1.out.size⟩)
   rw [← hwz, ← hb]
   clear hwz hb hmk
   go_wp2_with fail
   refine (bound_next.calls 2000 A c l (p : Int) (nx : Int) _ (Kd.C_below HR.out HST.out.bel) HC.out HNX.out).mono ?_
   rintro e w2 ⟨rfl, hb2⟩
   have HS2 := Aside0.mk (HST.out.below hb2)
   have HW0 := Aside0.mk (show wsN (M.drop 0) [] 0 = wsN M [] 0 from rfl)
   clear hb2
   go_wp2_with fail
   go_loopw [5, 22] (fun n i wr => ∃ (m : Nat) (S : List Nat) (cnt : Nat), m ≤ M.length ∧ i = .int .i64 (m : Int) ∧ n = .int .i64 (cnt : Int) ∧ cnt ≤ m ∧ Aside0 (wsN (M.drop m) S cnt = wsN M [] 0) ∧ Aside0 (∃ q, q ≤ m ∧ WtSt w wr b q S)) (fun _ i _ => M.length - (intOf i).toNat)
   case atStart => exact ⟨0, [], 0, Nat.zero_le _, rfl, rfl, Nat.le_refl _, HW0, ⟨0, Nat.le_refl _, HS2.out⟩⟩
   case round =>
    clear HW0 HS2 hcut
    obtain ⟨m, S, cnt, hm, rfl, rfl, hcm, HW, HSR⟩ := hrel
    obtain ⟨q, hq, hst⟩ := HSR.out
    have HS := Aside0.mk hst
    by_cases hlt : m < M.length
    · obtain ⟨x, hx⟩ : ∃ x, M[m]? = some x := ⟨_, List.getElem?_eq_getElem hlt⟩
      have hxf := HMF.out.1 x (List.mem_of_getElem? hx)
      obtain ⟨ad, rfl, u0, u1, u2, u3, u4, u5⟩ := ev_at (Kd.C_below HM.out hst.bel) hx
      have hw1 : IntKind.i64.wrap ((m : Int) + 1) = (m : Int) + 1 := IntWalk.i64_in _ (by omega)
      have hw2 : IntKind.i64.wrap ((cnt : Int) + 1) = (cnt : Int) + 1 := IntWalk.i64_in _ (by omega)
      have hdr : M.drop m = x :: M.drop (m + 1) := by
       rw [List.drop_eq_getElem_cons hlt]
       rw [List.getElem?_eq_getElem hlt] at hx
       injection hx with hx
       rw [hx]
      have HD := Aside0.mk hdr
      obtain ⟨kx, ix, yx, tx⟩ := x
      simp only at u0 u1 u2 u3 u4 u5 hxf
      obtain ⟨z, hz⟩ : ∃ z, (mkE (kx, ix, yx, tx)).f1 = z := ⟨_, rfl⟩
      rw [hz] at u1
      have HB3 := Aside0.mk (below_alloc (Below.refl wr.heap.size wr) (.cells #[.int .i64 (kx : Int), .int .i64 z, .int .i64 (ix : Int), .int .u64 (yx : Int), .int .u64 (tx : Int), .int .u64 0] 25))
      have HSB := Aside0.mk (HS.out.below HB3.out)
      clear hst hx hdr hz
      by_cases h2 : kx = 2
      · subst h2
        obtain ⟨w', hrun, hst'⟩ := HSB.out.store (by omega) ix hxf.2
        rw [show ((2 : Nat) : Int) = 2 from rfl] at hrun
        have HS' := Aside0.mk hst'
        have HW' := Aside0.mk (show wsN (M.drop (m + 1)) (ix :: S) cnt = wsN M [] 0 by rw [← HW.out, HD.out]; rfl)
        clear hst'
        go_wp2
        go_roundw
        case rel => exact ⟨m + 1, ix :: S, cnt, by omega, by go_num, rfl, by omega, HW', ⟨q + 1, by omega, HS'.out⟩⟩
        case measure => simp [intOf]; omega
      · have d2 : ((kx : Int) == 2) = false := by rw [beq_eq_false_iff_ne]; omega
        have e2 : ¬ (kx : Int) = 2 := by omega
        have e2n : ¬ kx = 2 := h2
        have b2 : (kx == 2) = false := by rw [beq_eq_false_iff_ne]; omega
        by_cases h3 : kx = 3
        · subst h3
          have hlook := HSB.out.look ix hxf.2
          rw [inS_elem] at hlook
          rw [show ((3 : Nat) : Int) = 3 from rfl] at hlook
          cases hin : S.elem ix with
          | true =>
           rw [hin] at hlook
           have HW' := Aside0.mk (show wsN (M.drop (m + 1)) S (cnt + 1) = wsN M [] 0 by rw [← HW.out, HD.out]; show _ = (if ((3 : Nat) == 2) = true then wsN (M.drop (m + 1)) (ix :: S) cnt else if ((3 : Nat) == 3 && S.elem ix) = true then wsN (M.drop (m + 1)) S (cnt + 1) else wsN (M.drop (m + 1)) S cnt); rw [if_neg (by decide), hin]; rfl)
           clear hin
           go_wp2
           go_roundw
           case rel => exact ⟨m + 1, S, cnt + 1, by omega, by go_num, by go_num, by omega, HW', ⟨q, by omega, HSB.out⟩⟩
           case measure => simp [intOf]; omega
          | false =>
           rw [hin] at hlook
           have HW' := Aside0.mk (show wsN (M.drop (m + 1)) S cnt = wsN M [] 0 by rw [← HW.out, HD.out]; show _ = (if ((3 : Nat) == 2) = true then wsN (M.drop (m + 1)) (ix :: S) cnt else if ((3 : Nat) == 3 && S.elem ix) = true then wsN (M.drop (m + 1)) S (cnt + 1) else wsN (M.drop (m + 1)) S cnt); rw [if_neg (by decide), hin]; rfl)
           clear hin
           go_wp2
           go_roundw
           case rel => exact ⟨m + 1, S, cnt, by omega, by go_num, rfl, by omega, HW', ⟨q, by omega, HSB.out⟩⟩
           case measure => simp [intOf]; omega
        · have d3 : ((kx : Int) == 3) = false := by rw [beq_eq_false_iff_ne]; omega
          have e3 : ¬ (kx : Int) = 3 := by omega
          have e3n : ¬ kx = 3 := h3
          have HW' := Aside0.mk (show wsN (M.drop (m + 1)) S cnt = wsN M [] 0 by rw [← HW.out, HD.out]; show _ = (if (kx == 2) = true then wsN (M.drop (m + 1)) (ix :: S) cnt else if (kx == 3 && S.elem ix) = true then wsN (M.drop (m + 1)) S (cnt + 1) else wsN (M.drop (m + 1)) S cnt); rw [b2, show (kx == 3) = false by rw [beq_eq_false_iff_ne]; omega]; rfl)
          go_wp2
          go_roundw
          case rel => exact ⟨m + 1, S, cnt, by omega, by go_num, rfl, by omega, HW', ⟨q, by omega, HSB.out⟩⟩
          case measure => simp [intOf]; omega
    · obtain rfl : m = M.length := by omega
      have HE := Aside0.mk (show cnt = wsN M [] 0 by have := HW.out; rw [List.drop_of_length_le (Nat.le_refl _)] at this; exact this)
      clear hst
      go_wp2
      go_ret
      exact ⟨by rw [HWN.out, ← HE.out]; rfl, HS.out.bel⟩
 · have HIS := Aside0.mk (show bound_is.f l (p : Int) 2 = some false by
    have := is_told L p 2
    rw [← hl] at this
    rw [show (kdAt L p == 2) = false by simpa using hk, Bool.and_false] at this
    exact this)
   have HWN := Aside0.mk (show waitN L p = -1 by unfold waitN; rw [if_neg hk])
   clear hk hl hr hf hlen
   go_enter Try.func8, Try.ntmps8
   go_wp2_with fail
   refine (bound_is.calls A c l (p : Int) 2 false w HR.out hc HIS.out).mono ?_
   rintro e w1 ⟨rfl, hb⟩
   have HB1 := Aside0.mk hb.below
   clear hb
   go_wp2
   go_ret
   exact ⟨by rw [HWN.out]; rfl, HB1.out⟩
end Go.Proofs.Ytidjppjijeepnaa.V
end
