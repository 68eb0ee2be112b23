-- a text of this work, without what this claim doesn't use (wip/shake.py)
import Derived.Test.YthghkglkifeagaaGreatKVPvergerref5
import Derived.Test.YthghkglkifeagaaGreatKVPentry1
namespace Go.Proofs.YthghkglkifeagaaGreat.V
open Go.RowKit Go.Proofs.YthghkglkifeagaaGreatW.PrintWords Go.Proofs.YthghkglkifeagaaGreatW.PrintLast Go.Proofs.YthghkglkifeagaaGreatW.PrintMore
attribute [local go_sem] max2_int min2_int max_two min_two max_three min_three max_four min_four
set_option linter.unusedVariables false
set_option linter.unusedSimpArgs false
def block_Level.l0 : Nat → Int → Int → Option (Int)
  | 0, _, _ => none
  | k + 1, x0, x3 => if x3 < 62 then (if 0 ≤ x3 then (if (shl .i64 1 x3) < x0 then (block_Level.l0 k x0 (wrap64 (x3 + 1))) else (some x3)) else (none)) else (some x3)
def block_Level.f (k : Nat) (a0 : Int) : Option (Int) := block_Level.l0 k a0 0
set_option maxHeartbeats 8000000 in
set_option maxRecDepth 100000 in
theorem block_Level.calls (k : Nat) (a0 : Int) (r : Int) (w : World) (h : block_Level.f k a0 = some r) :
 Calls Tryz.prog 93 #[.int .i64 a0] w fun e w' => e = .returned (.int .i64 r) ∧ Drawn0 w w' := by
 have H : (block_Level.l0 k a0 0) = some r := h; clear h; have H' := Aside0.mk H; clear H; go_enter Tryz.func93, Tryz.ntmps93
 go_wp2
 go_loopg [3] k (fun kq v3 w' => ∃ (x3_1 : Int), v3 = .int .i64 x3_1 ∧ Aside0 (block_Level.l0 kq a0 x3_1 = some r) ∧ Aside0 (kq ≤ k) ∧ Drawn0 w w')
 case atStart => exact ⟨(0), (by first | rfl | (simp; done) | (simp [*]; done)), H', ⟨vu _⟩, by repeat (first | exact xg _ | apply xe)⟩
 case round =>
  clear H'; obtain ⟨x3_1, rfl, HA, HK1, ⟨m1, rfl⟩⟩ := hrel
  cases gk with
  | zero => exact absurd HA.out (by simp [block_Level.l0])
  | succ k1 =>
   have H := HA.out; clear HA; simp only [block_Level.l0] at H
   by_cases c2 : x3_1 < 62
   · rw [if_pos c2] at H; have c2b0 : decide (x3_1 < 62) = true := decide_eq_true c2; clear c2
     by_cases c3 : 0 ≤ x3_1
     · rw [if_pos c3] at H; have c3b0 := eq_true c3; have c3b1 : decide (0 ≤ x3_1) = true := decide_eq_true c3; clear c3; obtain ⟨ji4, hji4⟩ : ∃ j_ : Int, (shl .i64 1 x3_1) = j_ := ⟨_, rfl⟩; (replace H : (if (ji4) < a0 then (block_Level.l0 k1 a0 (wrap64 (x3_1 + 1))) else (some x3_1)) = some r := by first | (rw [hji4] at H; exact H) | (simp only [hji4] at H ⊢; exact H)); have hji4_ : (IntKind.i64.wrap (1 * 2 ^ min x3_1.toNat 64)) = ji4 := hji4; have hji4z : x3_1 ≤ 64 → (IntKind.i64.wrap (1 * 2 ^ x3_1.toNat)) = ji4 := shl_small hji4; (have hji4u : (IntKind.i64.wrap (2 ^ min x3_1.toNat 64)) = ji4 := by have h_ := hji4_; rw [Int.one_mul] at h_; exact h_); (have hji4v : x3_1 ≤ 64 → (IntKind.i64.wrap (2 ^ x3_1.toNat)) = ji4 := fun hle_ => by have h_ := hji4z hle_; rw [Int.one_mul] at h_; exact h_); have hji4y : (wrap64 (1 * 2 ^ min x3_1.toNat 64)) = ji4 := (uh _).symm.trans hji4_; (have hji4x : x3_1 ≤ 64 → (wrap64 (1 * 2 ^ x3_1.toNat)) = ji4 := fun h_ => (uh _).symm.trans (hji4z h_))
       by_cases c5 : (ji4) < a0
       · rw [if_pos c5] at H; have c5b0 : decide ((ji4) < a0) = true := decide_eq_true c5; clear c5; have H' := Aside0.mk H; clear H
         go_wp2
         go_roundg k1
         case measure => have := HK1.out; omega
         case rel => exact ⟨(wrap64 (x3_1 + 1)), (by first | rfl | (simp; done) | (simp [*]; done)), H', ⟨by have := HK1.out; omega⟩, by repeat (first | exact xg _ | apply xe)⟩
       · rw [if_neg c5] at H; have c5b0 : decide ((ji4) < a0) = false := decide_eq_false c5; clear c5; obtain rfl := Option.some.inj H
         go_wp2
         go_ret
         exact ⟨by first | rfl | (simp; done) | (simp only [← hji4] <;> (first | rfl | simp)) | (simp [*]; done), by repeat (first | exact xg _ | apply xe)⟩
     · rw [if_neg c3] at H; exact absurd H (by simp)
   · rw [if_neg c2] at H; have c2b0 : decide (x3_1 < 62) = false := decide_eq_false c2; clear c2; obtain rfl := Option.some.inj H
     go_wp2
     go_ret
     exact ⟨by first | rfl | (simp; done) | (simp [*]; done), by repeat (first | exact xg _ | apply xe)⟩
def block_Block_Ok.f (k : Nat) (a0_0 : Int) (l0_1 : List (S33)) : Option (Bool) := if a0_0 ≥ 0 then (if a0_0 ≤ 62 then ((block_Level.f k (l0_1.length : Int)).bind fun t102 => (if a0_0 = t102 then ((entry_Sorted.f k l0_1).bind fun t103 => (some t103)) else (some false))) else (some false)) else (some false)
def block_Block_Ok.T1 : Bool × List (List Nat × List Nat) := (true, [([], []), ([0], [0]), ([1], [1]), ([2], [2]), ([3], [3]), ([4, 3], [3, 4]), ([5, 3], [3, 5]), ([3, 6], [3, 6]), ([7, 3], [7]), ([8], [8]), ([9, 8], [8, 9]), ([8], [8]), ([11, 8], [8, 11]), ([12, 8], [8, 12]), ([13, 8, 8], [8, 13]), ([10, 14, 8], [8, 10, 14]), ([8, 15], [8, 15]), ([16, 14], [16]), ([17], [17]), ([18, 17], [17, 18]), ([19, 17, 17], [17, 19]), ([17, 20], [17, 20]), ([21, 20, 0, 1, 2, 3, 4, 5, 6, 7, 8, 9, 10, 11, 12, 13, 14, 15, 16, 17, 18, 19, 20, 21], [21])])
def block_Block_Ok.B1 : List Nat := [0, 1, 3, 7, 15, 31, 63, 127, 255, 511, 1023, 511, 2559, 6655, 14847, 32767, 65535, 131071, 262143, 524287, 1048575, 2097151, 4194303]
theorem block_Block_Ok.tab1 : rtab .any (opsOf Tryz.f101 1) = block_Block_Ok.T1 := by kernel_rfl
theorem block_Block_Ok.bits1 : waitsOk block_Block_Ok.T1.2 block_Block_Ok.B1 = true := by kernel_rfl
set_option maxHeartbeats 8000000 in
set_option maxRecDepth 100000 in
theorem block_Block_Ok.calls (k : Nat) (a0_0 : Int) (A0_1 : Option Addr) (c0_1 : Nat) (l0_1 : List (S33)) (r : Bool) (w : World) (hr0_1 : Kd.C k33 w A0_1 l0_1.length l0_1) (hc0_1 : l0_1.length ≤ c0_1) (h : block_Block_Ok.f k a0_0 l0_1 = some r) :
 Calls Tryz.prog 101 #[.agg #[.int .i64 a0_0, .slice A0_1 l0_1.length c0_1]] w fun e w' => e = .returned (.bool r) ∧ Below w.heap.size w w' := by
 have hu109 := Tryz.underlying109; have HR0_1 := Aside0.mk hr0_1; have HC0_1 := Aside0.mk hc0_1; clear hr0_1 hc0_1; have HB := Aside0.mk (Below.refl w.heap.size w); have H : (if a0_0 ≥ 0 then (if a0_0 ≤ 62 then ((block_Level.f k (l0_1.length : Int)).bind fun t102 => (if a0_0 = t102 then ((entry_Sorted.f k l0_1).bind fun t103 => (some t103)) else (some false))) else (some false)) else (some false)) = some r := h; clear h
 by_cases c2 : a0_0 ≥ 0
 · rw [if_pos c2] at H; have c2b0 : decide (0 ≤ a0_0) = true := decide_eq_true c2; clear c2
   by_cases c3 : a0_0 ≤ 62
   · rw [if_pos c3] at H; have c3b0 : decide (a0_0 ≤ 62) = true := decide_eq_true c3; clear c3; replace H := Option.bind_eq_some_iff.mp H; obtain ⟨t102, A40, H⟩ := H; replace H : (if a0_0 = t102 then ((entry_Sorted.f k l0_1).bind fun t103 => (some t103)) else (some false)) = some r := H; have A4 := Aside0.mk A40; clear A40
     by_cases c5 : a0_0 = t102
     · rw [if_pos c5] at H; have c5b0 : (a0_0 == t102) = true := beq_iff_eq.mpr c5; have c5b1 : (a0_0 != t102) = false := bne_eq_false_iff_eq.mpr c5; clear c5; replace H := Option.bind_eq_some_iff.mp H; obtain ⟨t103, A60, H⟩ := H; replace H : (some t103) = some r := H; have A6 := Aside0.mk A60; clear A60; obtain rfl := Option.some.inj H; go_enter Tryz.func101, Tryz.ntmps101
       try go_wp2_with (first | ((with_reducible refine gate_dst (N := 1) rfl ?_); (try (refine gate_guard (by rfl) ?_; dsimp only)); refine xm ?hg (N := 1) ?hd (cs := #[.int .i64 a0_0, .slice A0_1 l0_1.length c0_1]) (t := 109) ?hr ?_; (case hd => rfl); (case hg => rfl); (case hr => first | (go_simp; done) | (go_simp; rfl)); intro gb101 hg w7 hbox hb; have n0_ := Aside0.mk (vp (by repeat (first | (with_reducible first | exact HB.out | apply uf | apply ud | apply ue) | exact HB.out)) hb); have n1_ := Aside0.mk (hbox); have n2_ := Aside0.mk ((by rw [hg]; exact (ux (by repeat (first | (with_reducible first | exact HB.out | apply uf | apply ud | apply ue) | exact HB.out))) : w.heap.size ≤ gb101)); have n3_ := Aside0.mk ((by rw [hg]; exact (ux (by repeat (first | (with_reducible first | exact HB.out | apply uf | apply ud | apply ue) | exact HB.out))) : w.heap.size ≤ gb101)); clear HB; have HB := n0_; have BK101 := n1_; have GW101 := n2_; have GE101 := n3_; clear n0_ n1_ n2_ n3_; clear hb hbox hg))
       have n0_ := Aside0.mk (vn BK101.out); have n1_ := Aside0.mk (ue HB.out); clear BK101 HB; have BK101 := n0_; have HB := n1_; clear n0_ n1_; refine start_ (n := 23) (S := fun w' => w'.cell? ⟨gb101, 0, none⟩ = some (.int .i64 a0_0) ∧ w'.cell? ⟨gb101, 1, none⟩ = some (.slice A0_1 l0_1.length c0_1)) (ds := []) #[xX, xX, xX, xX, xX, xX, xX, xX, xX, xX, xX, xX, xX, xX, xX, xX, xX, xX, xX, xX, xX, xX, xX] (by kernel_rfl) rfl rfl ⟨(vo BK101.out 0).trans rfl, (vo BK101.out 1).trans rfl⟩ (fun hHeld => ?_); refine xk block_Block_Ok.tab1 block_Block_Ok.bits1 (fun HT_ HW_ => ?_); generalize w7.drew = w8 at BK101 HB hHeld ⊢; refine pU (i := 0) (N := some 3) (bA 23 1) (uj HT_.out (by kernel_rfl)) rfl ?_
       refine tU (i := 1) (N := some 4) (bA 23 3) (vy HT_.out HW_.out (by kernel_rfl)) rfl hHeld (by (constructor; (rintro w' ⟨s0, s1⟩; go_simp; (with_reducible rfl)); (simp only [Act.put, ua, ub, uc, uh, ui]; rfl))) ?_
       refine pU (i := 2) (N := some 5) (bA 23 7) (uj HT_.out (by kernel_rfl)) rfl ?_
       refine pU (i := 3) (N := some 6) (bA 23 15) (uj HT_.out (by kernel_rfl)) rfl ?_
       refine pU (i := 4) (N := some 7) (bA 23 31) (uj HT_.out (by kernel_rfl)) rfl ?_
       refine tU (i := 5) (N := some 8) (bA 23 63) (vy HT_.out HW_.out (by kernel_rfl)) rfl hHeld (by (constructor; (rintro w' ⟨s0, s1⟩; go_simp; (with_reducible rfl)); (simp only [Act.put, ua, ub, uc, uh, ui]; rfl))) ?_
       refine pU (i := 6) (N := some 9) (bA 23 127) (uj HT_.out (by kernel_rfl)) rfl ?_
       refine pU (i := 7) (N := some 10) (bA 23 255) (uj HT_.out (by kernel_rfl)) rfl ?_
       refine pU (i := 8) (N := some 11) (bA 23 511) (uj HT_.out (by kernel_rfl)) rfl ?_
       refine pU (i := 9) (N := some 12) (bA 23 1023) (uj HT_.out (by kernel_rfl)) rfl ?_
       refine pU (i := 11) (N := some 14) (bA 23 3071) (uj HT_.out (by kernel_rfl)) rfl ?_
       refine tU (i := 10) (N := some 13) (bA 23 4095) (vy HT_.out HW_.out (by kernel_rfl)) rfl hHeld (by (constructor; (rintro w' ⟨s0, s1⟩; go_simp; (with_reducible rfl)); (simp only [Act.put, ua, ub, uc, uh, ui]; rfl))) ?_
       refine tU (i := 12) (N := some 15) (bA 23 8191) (vy HT_.out HW_.out (by kernel_rfl)) rfl hHeld (by (constructor; (rintro w' ⟨s0, s1⟩; go_simp; (with_reducible rfl)); (simp only [Act.put, ua, ub, uc, uh, ui]; rfl))) ?_
       refine pU (i := 13) (N := some 16) (bA 23 16383) (uj HT_.out (by kernel_rfl)) rfl ?_
       refine one_ (i := 14) (N := some 17) #[yY, yY, yY, yY, yY, yY, yY, yY, yY, yY, yY, yY, yY, yY, yY, xX, xX, xX, xX, xX, xX, xX, xX] rfl rfl (one_of HT_.out (by kernel_rfl)) (by decide) (fun K hK => ?_); refine goes_ Tryz.func93 (by kernel_rfl) rfl #[.int .i64 (l0_1.length : Int)] (by rfl) rfl rfl (by (try simp only [ul, ur, us]); first | done | rfl | (simp only [um, uo]; rfl)) ?_; (with_reducible refine (block_Level.calls k (l0_1.length : Int) t102 _ A4.out).mono ?_); rintro e w' ⟨rfl, ⟨nd, rfl⟩⟩; refine ⟨_, rfl, ?_⟩; refine hK.out _ _ ⟨(vo BK101.out 0).trans rfl, (vo BK101.out 1).trans rfl⟩ (fun hHeld => ?_); clear hK K; refine norm_ (a' := ?_) ?_ ?_; rotate_left
       · show Act.put _ (some 17) _ = _
         simp only [Act.put, ua, ub, uc, uh, ui]; rfl
       refine pU (i := 15) (N := some 18) (bA 23 65535) (uj HT_.out (by kernel_rfl)) rfl ?_
       refine pU (i := 16) (N := some 19) (bA 23 131071) (uj HT_.out (by kernel_rfl)) rfl ?_
       refine pU (i := 17) (N := some 20) (bA 23 262143) (uj HT_.out (by kernel_rfl)) rfl ?_
       refine pU (i := 18) (N := some 21) (bA 23 524287) (uj HT_.out (by kernel_rfl)) rfl ?_
       refine tU (i := 19) (N := some 22) (bA 23 1048575) (vy HT_.out HW_.out (by kernel_rfl)) rfl hHeld (by (constructor; (rintro w' ⟨s0, s1⟩; go_simp; (with_reducible rfl)); (simp only [Act.put, ua, ub, uc, uh, ui]; rfl))) ?_
       refine one_ (i := 20) (N := some 23) #[yY, yY, yY, yY, yY, yY, yY, yY, yY, yY, yY, yY, yY, yY, yY, yY, yY, yY, yY, yY, yY, xX, xX] rfl rfl (one_of HT_.out (by kernel_rfl)) (by decide) (fun K hK => ?_); refine goes_ Tryz.func119 (by kernel_rfl) rfl #[.slice A0_1 l0_1.length c0_1] (by rfl) rfl rfl (by (try simp only [ul, ur, us]); first | done | rfl | (simp only [um, uo]; rfl)) ?_; (with_reducible refine (entry_Sorted.calls k _ _ l0_1 t103 _ ?side1 ?side2 A6.out).mono ?_); (case side1 => repeat (first | exact (Kd.C_below HR0_1.out (by repeat (first | (with_reducible first | exact HB.out | apply uf | apply ud | apply ue | refine uq ?_ GE101.out) | exact HB.out))) | (with_reducible refine Kd.C_alloc ?_ _) | (with_reducible refine Kd.C_drewN ?_ _) | (with_reducible refine Kd.C_drew ?_))); (case side2 => exact HC0_1.out); rintro e w9 ⟨rfl, hb⟩; refine ⟨_, rfl, ?_⟩; have n0_ := Aside0.mk (xa (g := gb101) (o := .cells #[.int .i64 a0_0, .slice A0_1 l0_1.length c0_1] 109 (0, 0)) (by (with_reducible repeat (first | refine vl ?_ _ | refine vn ?_ | refine vm ?_ _)); exact BK101.out) hb); have n1_ := Aside0.mk (vp (by repeat (first | (with_reducible first | exact HB.out | apply uf | apply ud | apply ue | refine uq ?_ GE101.out) | exact HB.out)) hb); clear BK101 HB; have BK101 := n0_; have HB := n1_; clear n0_ n1_; (try clear hb); (try clear hb2); (try clear hk); (try clear hi); refine hK.out _ _ ⟨(vo BK101.out 0).trans rfl, (vo BK101.out 1).trans rfl⟩ (fun hHeld => ?_); clear hK K; refine norm_ (a' := ?_) ?_ ?_; rotate_left
       · show Act.put _ (some 23) _ = _
         simp only [Act.put, ua, ub, uc, uh, ui]; rfl
       refine pU (i := 21) (N := some 24) (bA 23 4194303) (uj HT_.out (by kernel_rfl)) rfl ?_
       refine pU (i := 22) (N := some 2) (bA 23 8388607) (uj HT_.out (by kernel_rfl)) rfl ?_
       refine done_ (done_of HT_.out (by kernel_rfl)) ?_
       try go_wp2
       go_ret
       exact ⟨by first | rfl | (simp [errW_none, errW_some] <;> rfl) | (simp [*, errW_none, errW_some] <;> rfl), by repeat (first | (with_reducible first | exact HB.out | apply uf | apply ud | apply ue | refine uq ?_ GE101.out) | exact HB.out)⟩
     · rw [if_neg c5] at H; have c5b0 : (a0_0 == t102) = false := beq_eq_false_iff_ne.mpr c5; have c5b1 : (a0_0 != t102) = true := bne_iff_ne.mpr c5; obtain rfl := Option.some.inj H; go_enter Tryz.func101, Tryz.ntmps101
       try go_wp2_with (first | ((with_reducible refine gate_dst (N := 1) rfl ?_); (try (refine gate_guard (by rfl) ?_; dsimp only)); refine xm ?hg (N := 1) ?hd (cs := #[.int .i64 a0_0, .slice A0_1 l0_1.length c0_1]) (t := 109) ?hr ?_; (case hd => rfl); (case hg => rfl); (case hr => first | (go_simp; done) | (go_simp; rfl)); intro gb101 hg w10 hbox hb; have n0_ := Aside0.mk (vp (by repeat (first | (with_reducible first | exact HB.out | apply uf | apply ud | apply ue) | exact HB.out)) hb); have n1_ := Aside0.mk (hbox); have n2_ := Aside0.mk ((by rw [hg]; exact (ux (by repeat (first | (with_reducible first | exact HB.out | apply uf | apply ud | apply ue) | exact HB.out))) : w.heap.size ≤ gb101)); have n3_ := Aside0.mk ((by rw [hg]; exact (ux (by repeat (first | (with_reducible first | exact HB.out | apply uf | apply ud | apply ue) | exact HB.out))) : w.heap.size ≤ gb101)); clear HB; have HB := n0_; have BK101 := n1_; have GW101 := n2_; have GE101 := n3_; clear n0_ n1_ n2_ n3_; clear hb hbox hg))
       have n0_ := Aside0.mk (vn BK101.out); have n1_ := Aside0.mk (ue HB.out); clear BK101 HB; have BK101 := n0_; have HB := n1_; clear n0_ n1_; refine start_ (n := 23) (S := fun w' => w'.cell? ⟨gb101, 0, none⟩ = some (.int .i64 a0_0) ∧ w'.cell? ⟨gb101, 1, none⟩ = some (.slice A0_1 l0_1.length c0_1)) (ds := []) #[xX, xX, xX, xX, xX, xX, xX, xX, xX, xX, xX, xX, xX, xX, xX, xX, xX, xX, xX, xX, xX, xX, xX] (by kernel_rfl) rfl rfl ⟨(vo BK101.out 0).trans rfl, (vo BK101.out 1).trans rfl⟩ (fun hHeld => ?_); refine xk block_Block_Ok.tab1 block_Block_Ok.bits1 (fun HT_ HW_ => ?_); generalize w10.drew = w11 at BK101 HB hHeld ⊢; refine pU (i := 0) (N := some 3) (bA 23 1) (uj HT_.out (by kernel_rfl)) rfl ?_
       refine tU (i := 1) (N := some 4) (bA 23 3) (vy HT_.out HW_.out (by kernel_rfl)) rfl hHeld (by (constructor; (rintro w' ⟨s0, s1⟩; go_simp; (with_reducible rfl)); (simp only [Act.put, ua, ub, uc, uh, ui]; rfl))) ?_
       refine pU (i := 2) (N := some 5) (bA 23 7) (uj HT_.out (by kernel_rfl)) rfl ?_
       refine pU (i := 3) (N := some 6) (bA 23 15) (uj HT_.out (by kernel_rfl)) rfl ?_
       refine pU (i := 4) (N := some 7) (bA 23 31) (uj HT_.out (by kernel_rfl)) rfl ?_
       refine tU (i := 5) (N := some 8) (bA 23 63) (vy HT_.out HW_.out (by kernel_rfl)) rfl hHeld (by (constructor; (rintro w' ⟨s0, s1⟩; go_simp; (with_reducible rfl)); (simp only [Act.put, ua, ub, uc, uh, ui]; rfl))) ?_
       refine pU (i := 6) (N := some 9) (bA 23 127) (uj HT_.out (by kernel_rfl)) rfl ?_
       refine pU (i := 7) (N := some 10) (bA 23 255) (uj HT_.out (by kernel_rfl)) rfl ?_
       refine pU (i := 8) (N := some 11) (bA 23 511) (uj HT_.out (by kernel_rfl)) rfl ?_
       refine pU (i := 9) (N := some 12) (bA 23 1023) (uj HT_.out (by kernel_rfl)) rfl ?_
       refine pU (i := 11) (N := some 14) (bA 23 3071) (uj HT_.out (by kernel_rfl)) rfl ?_
       refine tU (i := 10) (N := some 13) (bA 23 4095) (vy HT_.out HW_.out (by kernel_rfl)) rfl hHeld (by (constructor; (rintro w' ⟨s0, s1⟩; go_simp; (with_reducible rfl)); (simp only [Act.put, ua, ub, uc, uh, ui]; rfl))) ?_
       refine tU (i := 12) (N := some 15) (bA 23 8191) (vy HT_.out HW_.out (by kernel_rfl)) rfl hHeld (by (constructor; (rintro w' ⟨s0, s1⟩; go_simp; (with_reducible rfl)); (simp only [Act.put, ua, ub, uc, uh, ui]; rfl))) ?_
       refine pU (i := 13) (N := some 16) (bA 23 16383) (uj HT_.out (by kernel_rfl)) rfl ?_
       refine one_ (i := 14) (N := some 17) #[yY, yY, yY, yY, yY, yY, yY, yY, yY, yY, yY, yY, yY, yY, yY, xX, xX, xX, xX, xX, xX, xX, xX] rfl rfl (one_of HT_.out (by kernel_rfl)) (by decide) (fun K hK => ?_); refine goes_ Tryz.func93 (by kernel_rfl) rfl #[.int .i64 (l0_1.length : Int)] (by rfl) rfl rfl (by (try simp only [ul, ur, us]); first | done | rfl | (simp only [um, uo]; rfl)) ?_; (with_reducible refine (block_Level.calls k (l0_1.length : Int) t102 _ A4.out).mono ?_); rintro e w' ⟨rfl, ⟨nd, rfl⟩⟩; refine ⟨_, rfl, ?_⟩; refine hK.out _ _ ⟨(vo BK101.out 0).trans rfl, (vo BK101.out 1).trans rfl⟩ (fun hHeld => ?_); clear hK K; refine norm_ (a' := ?_) ?_ ?_; rotate_left
       · show Act.put _ (some 17) _ = _
         simp only [Act.put, ua, ub, uc, uh, ui]; rfl
       refine pU (i := 15) (N := some 18) (bA 23 65535) (uj HT_.out (by kernel_rfl)) rfl ?_
       refine pU (i := 16) (N := some 19) (bA 23 131071) (uj HT_.out (by kernel_rfl)) rfl ?_
       refine pU (i := 17) (N := some 20) (bA 23 262143) (uj HT_.out (by kernel_rfl)) rfl ?_
       refine uk (i := 18) (N := some 21) (v := undef) (a' := ?_) (bA 23 524287) rfl rfl (uj HT_.out (by kernel_rfl)) (fun _ _ _ h => h) (Or.inr ⟨by rfl, rfl⟩) ?_ ?_; rotate_left
       · simp only [Act.put, ua, ub, uc, uh, ui]; rfl
       refine uk (i := 19) (N := some 22) (v := undef) (a' := ?_) (bA 23 1048575) rfl rfl (uj HT_.out (by kernel_rfl)) (fun _ _ _ h => h) (Or.inr ⟨by rfl, rfl⟩) ?_ ?_; rotate_left
       · simp only [Act.put, ua, ub, uc, uh, ui]; rfl
       refine uk (i := 20) (N := some 23) (v := undef) (a' := ?_) (bA 23 2097151) rfl rfl (uj HT_.out (by kernel_rfl)) (fun _ _ _ h => h) (Or.inr ⟨by rfl, rfl⟩) ?_ ?_; rotate_left
       · simp only [Act.put, ua, ub, uc, uh, ui]; rfl
       refine pU (i := 21) (N := some 24) (bA 23 4194303) (uj HT_.out (by kernel_rfl)) rfl ?_
       refine pU (i := 22) (N := some 2) (bA 23 8388607) (uj HT_.out (by kernel_rfl)) rfl ?_
       refine done_ (done_of HT_.out (by kernel_rfl)) ?_
       try go_wp2
       go_ret
       exact ⟨by first | rfl | (simp [errW_none, errW_some] <;> rfl) | (simp [*, errW_none, errW_some] <;> rfl), by repeat (first | (with_reducible first | exact HB.out | apply uf | apply ud | apply ue | refine uq ?_ GE101.out) | exact HB.out)⟩
   · rw [if_neg c3] at H; have c3b0 : decide (a0_0 ≤ 62) = false := decide_eq_false c3; clear c3; obtain rfl := Option.some.inj H; go_enter Tryz.func101, Tryz.ntmps101
     try go_wp2_with (first | ((with_reducible refine gate_dst (N := 1) rfl ?_); (try (refine gate_guard (by rfl) ?_; dsimp only)); refine xm ?hg (N := 1) ?hd (cs := #[.int .i64 a0_0, .slice A0_1 l0_1.length c0_1]) (t := 109) ?hr ?_; (case hd => rfl); (case hg => rfl); (case hr => first | (go_simp; done) | (go_simp; rfl)); intro gb101 hg w12 hbox hb; have n0_ := Aside0.mk (vp (by repeat (first | (with_reducible first | exact HB.out | apply uf | apply ud | apply ue) | exact HB.out)) hb); have n1_ := Aside0.mk (hbox); have n2_ := Aside0.mk ((by rw [hg]; exact (ux (by repeat (first | (with_reducible first | exact HB.out | apply uf | apply ud | apply ue) | exact HB.out))) : w.heap.size ≤ gb101)); have n3_ := Aside0.mk ((by rw [hg]; exact (ux (by repeat (first | (with_reducible first | exact HB.out | apply uf | apply ud | apply ue) | exact HB.out))) : w.heap.size ≤ gb101)); clear HB; have HB := n0_; have BK101 := n1_; have GW101 := n2_; have GE101 := n3_; clear n0_ n1_ n2_ n3_; clear hb hbox hg))
     have n0_ := Aside0.mk (vn BK101.out); have n1_ := Aside0.mk (ue HB.out); clear BK101 HB; have BK101 := n0_; have HB := n1_; clear n0_ n1_; refine start_ (n := 23) (S := fun w' => w'.cell? ⟨gb101, 0, none⟩ = some (.int .i64 a0_0) ∧ w'.cell? ⟨gb101, 1, none⟩ = some (.slice A0_1 l0_1.length c0_1)) (ds := []) #[xX, xX, xX, xX, xX, xX, xX, xX, xX, xX, xX, xX, xX, xX, xX, xX, xX, xX, xX, xX, xX, xX, xX] (by kernel_rfl) rfl rfl ⟨(vo BK101.out 0).trans rfl, (vo BK101.out 1).trans rfl⟩ (fun hHeld => ?_); refine xk block_Block_Ok.tab1 block_Block_Ok.bits1 (fun HT_ HW_ => ?_); generalize w12.drew = w13 at BK101 HB hHeld ⊢; refine pU (i := 0) (N := some 3) (bA 23 1) (uj HT_.out (by kernel_rfl)) rfl ?_
     refine tU (i := 1) (N := some 4) (bA 23 3) (vy HT_.out HW_.out (by kernel_rfl)) rfl hHeld (by (constructor; (rintro w' ⟨s0, s1⟩; go_simp; (with_reducible rfl)); (simp only [Act.put, ua, ub, uc, uh, ui]; rfl))) ?_
     refine pU (i := 2) (N := some 5) (bA 23 7) (uj HT_.out (by kernel_rfl)) rfl ?_
     refine pU (i := 3) (N := some 6) (bA 23 15) (uj HT_.out (by kernel_rfl)) rfl ?_
     refine pU (i := 4) (N := some 7) (bA 23 31) (uj HT_.out (by kernel_rfl)) rfl ?_
     refine tU (i := 5) (N := some 8) (bA 23 63) (vy HT_.out HW_.out (by kernel_rfl)) rfl hHeld (by (constructor; (rintro w' ⟨s0, s1⟩; go_simp; (with_reducible rfl)); (simp only [Act.put, ua, ub, uc, uh, ui]; rfl))) ?_
     refine pU (i := 6) (N := some 9) (bA 23 127) (uj HT_.out (by kernel_rfl)) rfl ?_
     refine pU (i := 7) (N := some 10) (bA 23 255) (uj HT_.out (by kernel_rfl)) rfl ?_
     refine pU (i := 8) (N := some 11) (bA 23 511) (uj HT_.out (by kernel_rfl)) rfl ?_
     refine uk (i := 9) (N := some 12) (v := undef) (a' := ?_) (bA 23 1023) rfl rfl (uj HT_.out (by kernel_rfl)) (fun _ _ _ h => h) (Or.inr ⟨by rfl, rfl⟩) ?_ ?_; rotate_left
     · simp only [Act.put, ua, ub, uc, uh, ui]; rfl
     refine uk (i := 10) (N := some 13) (v := undef) (a' := ?_) (bA 23 2047) rfl rfl (uj HT_.out (by kernel_rfl)) (fun _ _ _ h => h) (Or.inr ⟨by rfl, rfl⟩) ?_ ?_; rotate_left
     · simp only [Act.put, ua, ub, uc, uh, ui]; rfl
     refine uk (i := 11) (N := some 14) (v := undef) (a' := ?_) (bA 23 4095) rfl rfl (uj HT_.out (by kernel_rfl)) (fun _ _ _ h => h) (Or.inr ⟨by rfl, rfl⟩) ?_ ?_; rotate_left
     · simp only [Act.put, ua, ub, uc, uh, ui]; rfl
     refine uk (i := 12) (N := some 15) (v := undef) (a' := ?_) (bA 23 8191) rfl rfl (uj HT_.out (by kernel_rfl)) (fun _ _ _ h => h) (Or.inr ⟨by rfl, rfl⟩) ?_ ?_; rotate_left
     · simp only [Act.put, ua, ub, uc, uh, ui]; rfl
     refine uk (i := 13) (N := some 16) (v := undef) (a' := ?_) (bA 23 16383) rfl rfl (uj HT_.out (by kernel_rfl)) (fun _ _ _ h => h) (Or.inr ⟨by rfl, rfl⟩) ?_ ?_; rotate_left
     · simp only [Act.put, ua, ub, uc, uh, ui]; rfl
     refine uk (i := 14) (N := some 17) (v := undef) (a' := ?_) (bA 23 32767) rfl rfl (uj HT_.out (by kernel_rfl)) (fun _ _ _ h => h) (Or.inr ⟨by rfl, rfl⟩) ?_ ?_; rotate_left
     · simp only [Act.put, ua, ub, uc, uh, ui]; rfl
     refine uk (i := 15) (N := some 18) (v := undef) (a' := ?_) (bA 23 65535) rfl rfl (uj HT_.out (by kernel_rfl)) (fun _ _ _ h => h) (Or.inr ⟨by rfl, rfl⟩) ?_ ?_; rotate_left
     · simp only [Act.put, ua, ub, uc, uh, ui]; rfl
     refine pU (i := 16) (N := some 19) (bA 23 131071) (uj HT_.out (by kernel_rfl)) rfl ?_
     refine pU (i := 17) (N := some 20) (bA 23 262143) (uj HT_.out (by kernel_rfl)) rfl ?_
     refine uk (i := 18) (N := some 21) (v := undef) (a' := ?_) (bA 23 524287) rfl rfl (uj HT_.out (by kernel_rfl)) (fun _ _ _ h => h) (Or.inr ⟨by rfl, rfl⟩) ?_ ?_; rotate_left
     · simp only [Act.put, ua, ub, uc, uh, ui]; rfl
     refine uk (i := 19) (N := some 22) (v := undef) (a' := ?_) (bA 23 1048575) rfl rfl (uj HT_.out (by kernel_rfl)) (fun _ _ _ h => h) (Or.inr ⟨by rfl, rfl⟩) ?_ ?_; rotate_left
     · simp only [Act.put, ua, ub, uc, uh, ui]; rfl
     refine uk (i := 20) (N := some 23) (v := undef) (a' := ?_) (bA 23 2097151) rfl rfl (uj HT_.out (by kernel_rfl)) (fun _ _ _ h => h) (Or.inr ⟨by rfl, rfl⟩) ?_ ?_; rotate_left
     · simp only [Act.put, ua, ub, uc, uh, ui]; rfl
     refine pU (i := 21) (N := some 24) (bA 23 4194303) (uj HT_.out (by kernel_rfl)) rfl ?_
     refine pU (i := 22) (N := some 2) (bA 23 8388607) (uj HT_.out (by kernel_rfl)) rfl ?_
     refine done_ (done_of HT_.out (by kernel_rfl)) ?_
     try go_wp2
     go_ret
     exact ⟨by first | rfl | (simp [errW_none, errW_some] <;> rfl) | (simp [*, errW_none, errW_some] <;> rfl), by repeat (first | (with_reducible first | exact HB.out | apply uf | apply ud | apply ue | refine uq ?_ GE101.out) | exact HB.out)⟩
 · rw [if_neg c2] at H; have c2b0 : decide (0 ≤ a0_0) = false := decide_eq_false c2; clear c2; obtain rfl := Option.some.inj H; go_enter Tryz.func101, Tryz.ntmps101
   try go_wp2_with (first | ((with_reducible refine gate_dst (N := 1) rfl ?_); (try (refine gate_guard (by rfl) ?_; dsimp only)); refine xm ?hg (N := 1) ?hd (cs := #[.int .i64 a0_0, .slice A0_1 l0_1.length c0_1]) (t := 109) ?hr ?_; (case hd => rfl); (case hg => rfl); (case hr => first | (go_simp; done) | (go_simp; rfl)); intro gb101 hg w14 hbox hb; have n0_ := Aside0.mk (vp (by repeat (first | (with_reducible first | exact HB.out | apply uf | apply ud | apply ue) | exact HB.out)) hb); have n1_ := Aside0.mk (hbox); have n2_ := Aside0.mk ((by rw [hg]; exact (ux (by repeat (first | (with_reducible first | exact HB.out | apply uf | apply ud | apply ue) | exact HB.out))) : w.heap.size ≤ gb101)); have n3_ := Aside0.mk ((by rw [hg]; exact (ux (by repeat (first | (with_reducible first | exact HB.out | apply uf | apply ud | apply ue) | exact HB.out))) : w.heap.size ≤ gb101)); clear HB; have HB := n0_; have BK101 := n1_; have GW101 := n2_; have GE101 := n3_; clear n0_ n1_ n2_ n3_; clear hb hbox hg))
   have n0_ := Aside0.mk (vn BK101.out); have n1_ := Aside0.mk (ue HB.out); clear BK101 HB; have BK101 := n0_; have HB := n1_; clear n0_ n1_; refine start_ (n := 23) (S := fun w' => w'.cell? ⟨gb101, 0, none⟩ = some (.int .i64 a0_0) ∧ w'.cell? ⟨gb101, 1, none⟩ = some (.slice A0_1 l0_1.length c0_1)) (ds := []) #[xX, xX, xX, xX, xX, xX, xX, xX, xX, xX, xX, xX, xX, xX, xX, xX, xX, xX, xX, xX, xX, xX, xX] (by kernel_rfl) rfl rfl ⟨(vo BK101.out 0).trans rfl, (vo BK101.out 1).trans rfl⟩ (fun hHeld => ?_); refine xk block_Block_Ok.tab1 block_Block_Ok.bits1 (fun HT_ HW_ => ?_); generalize w14.drew = w15 at BK101 HB hHeld ⊢; refine pU (i := 0) (N := some 3) (bA 23 1) (uj HT_.out (by kernel_rfl)) rfl ?_
   refine tU (i := 1) (N := some 4) (bA 23 3) (vy HT_.out HW_.out (by kernel_rfl)) rfl hHeld (by (constructor; (rintro w' ⟨s0, s1⟩; go_simp; (with_reducible rfl)); (simp only [Act.put, ua, ub, uc, uh, ui]; rfl))) ?_
   refine pU (i := 2) (N := some 5) (bA 23 7) (uj HT_.out (by kernel_rfl)) rfl ?_
   refine pU (i := 3) (N := some 6) (bA 23 15) (uj HT_.out (by kernel_rfl)) rfl ?_
   refine uk (i := 4) (N := some 7) (v := undef) (a' := ?_) (bA 23 31) rfl rfl (uj HT_.out (by kernel_rfl)) (fun _ _ _ h => h) (Or.inr ⟨by rfl, rfl⟩) ?_ ?_; rotate_left
   · simp only [Act.put, ua, ub, uc, uh, ui]; rfl
   refine uk (i := 5) (N := some 8) (v := undef) (a' := ?_) (bA 23 63) rfl rfl (uj HT_.out (by kernel_rfl)) (fun _ _ _ h => h) (Or.inr ⟨by rfl, rfl⟩) ?_ ?_; rotate_left
   · simp only [Act.put, ua, ub, uc, uh, ui]; rfl
   refine uk (i := 6) (N := some 9) (v := undef) (a' := ?_) (bA 23 127) rfl rfl (uj HT_.out (by kernel_rfl)) (fun _ _ _ h => h) (Or.inr ⟨by rfl, rfl⟩) ?_ ?_; rotate_left
   · simp only [Act.put, ua, ub, uc, uh, ui]; rfl
   refine pU (i := 7) (N := some 10) (bA 23 255) (uj HT_.out (by kernel_rfl)) rfl ?_
   refine pU (i := 8) (N := some 11) (bA 23 511) (uj HT_.out (by kernel_rfl)) rfl ?_
   refine uk (i := 9) (N := some 12) (v := undef) (a' := ?_) (bA 23 1023) rfl rfl (uj HT_.out (by kernel_rfl)) (fun _ _ _ h => h) (Or.inr ⟨by rfl, rfl⟩) ?_ ?_; rotate_left
   · simp only [Act.put, ua, ub, uc, uh, ui]; rfl
   refine uk (i := 10) (N := some 13) (v := undef) (a' := ?_) (bA 23 2047) rfl rfl (uj HT_.out (by kernel_rfl)) (fun _ _ _ h => h) (Or.inr ⟨by rfl, rfl⟩) ?_ ?_; rotate_left
   · simp only [Act.put, ua, ub, uc, uh, ui]; rfl
   refine uk (i := 11) (N := some 14) (v := undef) (a' := ?_) (bA 23 4095) rfl rfl (uj HT_.out (by kernel_rfl)) (fun _ _ _ h => h) (Or.inr ⟨by rfl, rfl⟩) ?_ ?_; rotate_left
   · simp only [Act.put, ua, ub, uc, uh, ui]; rfl
   refine uk (i := 12) (N := some 15) (v := undef) (a' := ?_) (bA 23 8191) rfl rfl (uj HT_.out (by kernel_rfl)) (fun _ _ _ h => h) (Or.inr ⟨by rfl, rfl⟩) ?_ ?_; rotate_left
   · simp only [Act.put, ua, ub, uc, uh, ui]; rfl
   refine uk (i := 13) (N := some 16) (v := undef) (a' := ?_) (bA 23 16383) rfl rfl (uj HT_.out (by kernel_rfl)) (fun _ _ _ h => h) (Or.inr ⟨by rfl, rfl⟩) ?_ ?_; rotate_left
   · simp only [Act.put, ua, ub, uc, uh, ui]; rfl
   refine uk (i := 14) (N := some 17) (v := undef) (a' := ?_) (bA 23 32767) rfl rfl (uj HT_.out (by kernel_rfl)) (fun _ _ _ h => h) (Or.inr ⟨by rfl, rfl⟩) ?_ ?_; rotate_left
   · simp only [Act.put, ua, ub, uc, uh, ui]; rfl
   refine uk (i := 15) (N := some 18) (v := undef) (a' := ?_) (bA 23 65535) rfl rfl (uj HT_.out (by kernel_rfl)) (fun _ _ _ h => h) (Or.inr ⟨by rfl, rfl⟩) ?_ ?_; rotate_left
   · simp only [Act.put, ua, ub, uc, uh, ui]; rfl
   refine pU (i := 16) (N := some 19) (bA 23 131071) (uj HT_.out (by kernel_rfl)) rfl ?_
   refine pU (i := 17) (N := some 20) (bA 23 262143) (uj HT_.out (by kernel_rfl)) rfl ?_
   refine uk (i := 18) (N := some 21) (v := undef) (a' := ?_) (bA 23 524287) rfl rfl (uj HT_.out (by kernel_rfl)) (fun _ _ _ h => h) (Or.inr ⟨by rfl, rfl⟩) ?_ ?_; rotate_left
   · simp only [Act.put, ua, ub, uc, uh, ui]; rfl
   refine uk (i := 19) (N := some 22) (v := undef) (a' := ?_) (bA 23 1048575) rfl rfl (uj HT_.out (by kernel_rfl)) (fun _ _ _ h => h) (Or.inr ⟨by rfl, rfl⟩) ?_ ?_; rotate_left
   · simp only [Act.put, ua, ub, uc, uh, ui]; rfl
   refine uk (i := 20) (N := some 23) (v := undef) (a' := ?_) (bA 23 2097151) rfl rfl (uj HT_.out (by kernel_rfl)) (fun _ _ _ h => h) (Or.inr ⟨by rfl, rfl⟩) ?_ ?_; rotate_left
   · simp only [Act.put, ua, ub, uc, uh, ui]; rfl
   refine pU (i := 21) (N := some 24) (bA 23 4194303) (uj HT_.out (by kernel_rfl)) rfl ?_
   refine pU (i := 22) (N := some 2) (bA 23 8388607) (uj HT_.out (by kernel_rfl)) rfl ?_
   refine done_ (done_of HT_.out (by kernel_rfl)) ?_
   try go_wp2
   go_ret
   exact ⟨by first | rfl | (simp [errW_none, errW_some] <;> rfl) | (simp [*, errW_none, errW_some] <;> rfl), by repeat (first | (with_reducible first | exact HB.out | apply uf | apply ud | apply ue | refine uq ?_ GE101.out) | exact HB.out)⟩
end Go.Proofs.YthghkglkifeagaaGreat.V
