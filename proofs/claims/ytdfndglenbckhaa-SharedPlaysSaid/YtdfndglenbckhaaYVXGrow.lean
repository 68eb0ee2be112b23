-- a text of this work, without what this claim doesn't use (wip/shake.py)
import Derived.Test.YtdfndglenbckhaaYVE46
import Derived.Test.YtdfndglenbckhaaYVPentry1
import Derived.Test.YtdfndglenbckhaaYVXClone
import Derived.Test.YtdfndglenbckhaaYVCall
import Derived.Laws.CopyRow
import Derived.Laws.CopyOwn
import Derived.Laws.Externs
import Derived.Lib.Overlaps
import Derived.Lib.AppendZerosOnto
import Derived.Shelf.Spec.SlicesInsert
section
namespace Go.Proofs.Ytdfndglenbckhaa.V
open Go.RowKit Go.Proofs.YtdfndglenbckhaaW.PrintWords Go.Proofs.YtdfndglenbckhaaW.PrintLast Go.Proofs.YtdfndglenbckhaaW.PrintMore
attribute [local go_sem] max2_int min2_int max_two min_two max_three min_three max_four min_four
set_option linter.unusedVariables false
set_option linter.unusedSimpArgs false
def block_Level.l0 : Nat → Int → Int → Option (Int)
  | 0, _, _ => none
  | k + 1, x0, x3 => if x3 < 62 then (if 0 ≤ x3 then (if (shl .i64 1 x3) < x0 then (block_Level.l0 k x0 (wrap64 (x3 + 1))) else (some x3)) else (none)) else (some x3)
def block_Level.f (k : Nat) (a0 : Int) : Option (Int) := block_Level.l0 k a0 0
set_option maxHeartbeats 8000000 in
set_option maxRecDepth 100000 in
theorem block_Level.calls (k : Nat) (a0 : Int) (r : Int) (w : World) (h : block_Level.f k a0 = some r) :
 Calls Try.prog 98 #[.int .i64 a0] w fun e w' => e = .returned (.int .i64 r) ∧ Drawn0 w w' := by
 have H : (block_Level.l0 k a0 0) = some r := h; clear h; have H' := Aside0.mk H; clear H; go_enter Try.func98, Try.ntmps98
 go_wp2
 go_loopg [3] k (fun kq v3 w' => ∃ (x3_1 : Int), v3 = .int .i64 x3_1 ∧ Aside0 (block_Level.l0 kq a0 x3_1 = some r) ∧ Aside0 (kq ≤ k) ∧ Drawn0 w w')
 case atStart => exact ⟨(0), (by first | rfl | (simp; done) | (simp [*]; done)), H', ⟨vn _⟩, by repeat (first | exact xf _ | apply xe)⟩
 case round =>
  clear H'; obtain ⟨x3_1, rfl, HA, HK1, ⟨m1, rfl⟩⟩ := hrel
  cases gk with
  | zero => exact absurd HA.out (by simp [block_Level.l0])
  | succ k1 =>
   have H := HA.out; clear HA; simp only [block_Level.l0] at H
   by_cases c2 : x3_1 < 62
   · rw [if_pos c2] at H; have c2b0 : decide (x3_1 < 62) = true := decide_eq_true c2; clear c2
     by_cases c3 : 0 ≤ x3_1
     · rw [if_pos c3] at H; have c3b0 := eq_true c3; have c3b1 : decide (0 ≤ x3_1) = true := decide_eq_true c3; clear c3; obtain ⟨ji4, hji4⟩ : ∃ j_ : Int, (shl .i64 1 x3_1) = j_ := ⟨_, rfl⟩; (replace H : (if (ji4) < a0 then (block_Level.l0 k1 a0 (wrap64 (x3_1 + 1))) else (some x3_1)) = some r := by first | (rw [hji4] at H; exact H) | (simp only [hji4] at H ⊢; exact H)); have hji4_ : (IntKind.i64.wrap (1 * 2 ^ min x3_1.toNat 64)) = ji4 := hji4; have hji4z : x3_1 ≤ 64 → (IntKind.i64.wrap (1 * 2 ^ x3_1.toNat)) = ji4 := shl_small hji4; (have hji4u : (IntKind.i64.wrap (2 ^ min x3_1.toNat 64)) = ji4 := by have h_ := hji4_; rw [Int.one_mul] at h_; exact h_); (have hji4v : x3_1 ≤ 64 → (IntKind.i64.wrap (2 ^ x3_1.toNat)) = ji4 := fun hle_ => by have h_ := hji4z hle_; rw [Int.one_mul] at h_; exact h_); have hji4y : (wrap64 (1 * 2 ^ min x3_1.toNat 64)) = ji4 := (uh _).symm.trans hji4_; (have hji4x : x3_1 ≤ 64 → (wrap64 (1 * 2 ^ x3_1.toNat)) = ji4 := fun h_ => (uh _).symm.trans (hji4z h_))
       by_cases c5 : (ji4) < a0
       · rw [if_pos c5] at H; have c5b0 : decide ((ji4) < a0) = true := decide_eq_true c5; clear c5; have H' := Aside0.mk H; clear H
         go_wp2
         go_roundg k1
         case measure => have := HK1.out; omega
         case rel => exact ⟨(wrap64 (x3_1 + 1)), (by first | rfl | (simp; done) | (simp [*]; done)), H', ⟨by have := HK1.out; omega⟩, by repeat (first | exact xf _ | apply xe)⟩
       · rw [if_neg c5] at H; have c5b0 : decide ((ji4) < a0) = false := decide_eq_false c5; clear c5; obtain rfl := Option.some.inj H
         go_wp2
         go_ret
         exact ⟨by first | rfl | (simp; done) | (simp only [← hji4] <;> (first | rfl | simp)) | (simp [*]; done), by repeat (first | exact xf _ | apply xe)⟩
     · rw [if_neg c3] at H; exact absurd H (by simp)
   · rw [if_neg c2] at H; have c2b0 : decide (x3_1 < 62) = false := decide_eq_false c2; clear c2; obtain rfl := Option.some.inj H
     go_wp2
     go_ret
     exact ⟨by first | rfl | (simp; done) | (simp [*]; done), by repeat (first | exact xf _ | apply xe)⟩
def block_Block_Ok.f (k : Nat) (a0_0 : Int) (l0_1 : List (S46)) : Option (Bool) := if a0_0 ≥ 0 then (if a0_0 ≤ 62 then ((block_Level.f k (l0_1.length : Int)).bind fun t102 => (if a0_0 = t102 then ((entry_Sorted.f k l0_1).bind fun t103 => (some t103)) else (some false))) else (some false)) else (some false)
def block_Block_Ok.T1 : Bool × List (List Nat × List Nat) := (true, [([], []), ([0], [0]), ([1], [1]), ([2], [2]), ([3], [3]), ([4, 3], [3, 4]), ([5, 3], [3, 5]), ([3, 6], [3, 6]), ([7, 3], [7]), ([8], [8]), ([9, 8], [8, 9]), ([8], [8]), ([11, 8], [8, 11]), ([12, 8], [8, 12]), ([13, 8, 8], [8, 13]), ([10, 14, 8], [8, 10, 14]), ([8, 15], [8, 15]), ([16, 14], [16]), ([17], [17]), ([18, 17], [17, 18]), ([19, 17, 17], [17, 19]), ([17, 20], [17, 20]), ([21, 20, 0, 1, 2, 3, 4, 5, 6, 7, 8, 9, 10, 11, 12, 13, 14, 15, 16, 17, 18, 19, 20, 21], [21])])
def block_Block_Ok.B1 : List Nat := [0, 1, 3, 7, 15, 31, 63, 127, 255, 511, 1023, 511, 2559, 6655, 14847, 32767, 65535, 131071, 262143, 524287, 1048575, 2097151, 4194303]
theorem block_Block_Ok.tab1 : rtab .any (opsOf Try.f69 1) = block_Block_Ok.T1 := by kernel_rfl
theorem block_Block_Ok.bits1 : waitsOk block_Block_Ok.T1.2 block_Block_Ok.B1 = true := by kernel_rfl
set_option maxHeartbeats 8000000 in
set_option maxRecDepth 100000 in
theorem block_Block_Ok.calls (k : Nat) (a0_0 : Int) (A0_1 : Option Addr) (c0_1 : Nat) (l0_1 : List (S46)) (r : Bool) (w : World) (hr0_1 : Kd.C k46 w A0_1 l0_1.length l0_1) (hc0_1 : l0_1.length ≤ c0_1) (h : block_Block_Ok.f k a0_0 l0_1 = some r) :
 Calls Try.prog 69 #[.agg #[.int .i64 a0_0, .slice A0_1 l0_1.length c0_1]] w fun e w' => e = .returned (.bool r) ∧ Below w.heap.size w w' := by
 have hu84 := Try.underlying84; have HR0_1 := Aside0.mk hr0_1; have HC0_1 := Aside0.mk hc0_1; clear hr0_1 hc0_1; have HB := Aside0.mk (Below.refl w.heap.size w); have H : (if a0_0 ≥ 0 then (if a0_0 ≤ 62 then ((block_Level.f k (l0_1.length : Int)).bind fun t102 => (if a0_0 = t102 then ((entry_Sorted.f k l0_1).bind fun t103 => (some t103)) else (some false))) else (some false)) else (some false)) = some r := h; clear h
 by_cases c2 : a0_0 ≥ 0
 · rw [if_pos c2] at H; have c2b0 : decide (0 ≤ a0_0) = true := decide_eq_true c2; clear c2
   by_cases c3 : a0_0 ≤ 62
   · rw [if_pos c3] at H; have c3b0 : decide (a0_0 ≤ 62) = true := decide_eq_true c3; clear c3; replace H := Option.bind_eq_some_iff.mp H; obtain ⟨t102, A40, H⟩ := H; replace H : (if a0_0 = t102 then ((entry_Sorted.f k l0_1).bind fun t103 => (some t103)) else (some false)) = some r := H; have A4 := Aside0.mk A40; clear A40
     by_cases c5 : a0_0 = t102
     · rw [if_pos c5] at H; have c5b0 : (a0_0 == t102) = true := beq_iff_eq.mpr c5; have c5b1 : (a0_0 != t102) = false := bne_eq_false_iff_eq.mpr c5; clear c5; replace H := Option.bind_eq_some_iff.mp H; obtain ⟨t103, A60, H⟩ := H; replace H : (some t103) = some r := H; have A6 := Aside0.mk A60; clear A60; obtain rfl := Option.some.inj H; go_enter Try.func69, Try.ntmps69
       try go_wp2_with (first | ((with_reducible refine xm (N := 1) rfl ?_); (try (refine xw (by rfl) ?_; dsimp only)); refine xl ?hg (N := 1) ?hd (cs := #[.int .i64 a0_0, .slice A0_1 l0_1.length c0_1]) (t := 84) ?hr ?_; (case hd => rfl); (case hg => rfl); (case hr => first | (go_simp; done) | (go_simp; rfl)); intro gb101 hg w7 hbox hb; have n0_ := Aside0.mk (uo (by repeat (first | (with_reducible first | exact HB.out | apply uf | apply ud | apply ue) | exact HB.out)) hb); have n1_ := Aside0.mk (hbox); have n2_ := Aside0.mk ((by rw [hg]; exact (ut (by repeat (first | (with_reducible first | exact HB.out | apply uf | apply ud | apply ue) | exact HB.out))) : w.heap.size ≤ gb101)); have n3_ := Aside0.mk ((by rw [hg]; exact (ut (by repeat (first | (with_reducible first | exact HB.out | apply uf | apply ud | apply ue) | exact HB.out))) : w.heap.size ≤ gb101)); clear HB; have HB := n0_; have BK101 := n1_; have GW101 := n2_; have GE101 := n3_; clear n0_ n1_ n2_ n3_; clear hb hbox hg))
       have n0_ := Aside0.mk (uz BK101.out); have n1_ := Aside0.mk (ue HB.out); clear BK101 HB; have BK101 := n0_; have HB := n1_; clear n0_ n1_; refine start_ (n := 23) (S := fun w' => w'.cell? ⟨gb101, 0, none⟩ = some (.int .i64 a0_0) ∧ w'.cell? ⟨gb101, 1, none⟩ = some (.slice A0_1 l0_1.length c0_1)) (ds := []) #[xX, xX, xX, xX, xX, xX, xX, xX, xX, xX, xX, xX, xX, xX, xX, xX, xX, xX, xX, xX, xX, xX, xX] (by kernel_rfl) rfl rfl ⟨(uk BK101.out 0).trans rfl, (uk BK101.out 1).trans rfl⟩ (fun hHeld => ?_); refine xv block_Block_Ok.tab1 block_Block_Ok.bits1 (fun HT_ HW_ => ?_); generalize w7.drew = w8 at BK101 HB hHeld ⊢; refine uj (i := 0) (N := some 3) (v := ?_) (a' := ?_) (bA 23 1) rfl rfl (ul HT_.out (by kernel_rfl)) (fun _ _ _ h => h) (Or.inl ⟨by rfl, ?_⟩) ?_ ?_; rotate_left
       · intro w'; go_simp; (with_reducible rfl)
       rotate_left
       · simp only [Act.put, ua, ub, uc, uh, ui]; rfl
       refine xk (i := 1) (N := some 4) (v := ?_) (a' := ?_) (bA 23 3) rfl rfl (xc HT_.out HW_.out (by kernel_rfl)) (fun _ _ _ h => h) (Or.inl ⟨by rfl, ?_⟩) hHeld ?_ ?_; rotate_left
       · rintro w' ⟨s0, s1⟩; go_simp; (with_reducible rfl)
       rotate_left
       · simp only [Act.put, ua, ub, uc, uh, ui]; rfl
       refine uj (i := 2) (N := some 5) (v := ?_) (a' := ?_) (bA 23 7) rfl rfl (ul HT_.out (by kernel_rfl)) (fun _ _ _ h => h) (Or.inl ⟨by rfl, ?_⟩) ?_ ?_; rotate_left
       · intro w'; go_simp; (with_reducible rfl)
       rotate_left
       · simp only [Act.put, ua, ub, uc, uh, ui]; rfl
       refine uj (i := 3) (N := some 6) (v := ?_) (a' := ?_) (bA 23 15) rfl rfl (ul HT_.out (by kernel_rfl)) (fun _ _ _ h => h) (Or.inl ⟨by rfl, ?_⟩) ?_ ?_; rotate_left
       · intro w'; go_simp; (with_reducible rfl)
       rotate_left
       · simp only [Act.put, ua, ub, uc, uh, ui]; rfl
       refine uj (i := 4) (N := some 7) (v := ?_) (a' := ?_) (bA 23 31) rfl rfl (ul HT_.out (by kernel_rfl)) (fun _ _ _ h => h) (Or.inl ⟨by rfl, ?_⟩) ?_ ?_; rotate_left
       · intro w'; go_simp; (with_reducible rfl)
       rotate_left
       · simp only [Act.put, ua, ub, uc, uh, ui]; rfl
       refine xk (i := 5) (N := some 8) (v := ?_) (a' := ?_) (bA 23 63) rfl rfl (xc HT_.out HW_.out (by kernel_rfl)) (fun _ _ _ h => h) (Or.inl ⟨by rfl, ?_⟩) hHeld ?_ ?_; rotate_left
       · rintro w' ⟨s0, s1⟩; go_simp; (with_reducible rfl)
       rotate_left
       · simp only [Act.put, ua, ub, uc, uh, ui]; rfl
       refine uj (i := 6) (N := some 9) (v := ?_) (a' := ?_) (bA 23 127) rfl rfl (ul HT_.out (by kernel_rfl)) (fun _ _ _ h => h) (Or.inl ⟨by rfl, ?_⟩) ?_ ?_; rotate_left
       · intro w'; go_simp; (with_reducible rfl)
       rotate_left
       · simp only [Act.put, ua, ub, uc, uh, ui]; rfl
       refine uj (i := 7) (N := some 10) (v := ?_) (a' := ?_) (bA 23 255) rfl rfl (ul HT_.out (by kernel_rfl)) (fun _ _ _ h => h) (Or.inl ⟨by rfl, ?_⟩) ?_ ?_; rotate_left
       · intro w'; go_simp; (with_reducible rfl)
       rotate_left
       · simp only [Act.put, ua, ub, uc, uh, ui]; rfl
       refine uj (i := 8) (N := some 11) (v := ?_) (a' := ?_) (bA 23 511) rfl rfl (ul HT_.out (by kernel_rfl)) (fun _ _ _ h => h) (Or.inl ⟨by rfl, ?_⟩) ?_ ?_; rotate_left
       · intro w'; go_simp; (with_reducible rfl)
       rotate_left
       · simp only [Act.put, ua, ub, uc, uh, ui]; rfl
       refine uj (i := 9) (N := some 12) (v := ?_) (a' := ?_) (bA 23 1023) rfl rfl (ul HT_.out (by kernel_rfl)) (fun _ _ _ h => h) (Or.inl ⟨by rfl, ?_⟩) ?_ ?_; rotate_left
       · intro w'; go_simp; (with_reducible rfl)
       rotate_left
       · simp only [Act.put, ua, ub, uc, uh, ui]; rfl
       refine uj (i := 11) (N := some 14) (v := ?_) (a' := ?_) (bA 23 3071) rfl rfl (ul HT_.out (by kernel_rfl)) (fun _ _ _ h => h) (Or.inl ⟨by rfl, ?_⟩) ?_ ?_; rotate_left
       · intro w'; go_simp; (with_reducible rfl)
       rotate_left
       · simp only [Act.put, ua, ub, uc, uh, ui]; rfl
       refine xk (i := 10) (N := some 13) (v := ?_) (a' := ?_) (bA 23 4095) rfl rfl (xc HT_.out HW_.out (by kernel_rfl)) (fun _ _ _ h => h) (Or.inl ⟨by rfl, ?_⟩) hHeld ?_ ?_; rotate_left
       · rintro w' ⟨s0, s1⟩; go_simp; (with_reducible rfl)
       rotate_left
       · simp only [Act.put, ua, ub, uc, uh, ui]; rfl
       refine xk (i := 12) (N := some 15) (v := ?_) (a' := ?_) (bA 23 8191) rfl rfl (xc HT_.out HW_.out (by kernel_rfl)) (fun _ _ _ h => h) (Or.inl ⟨by rfl, ?_⟩) hHeld ?_ ?_; rotate_left
       · rintro w' ⟨s0, s1⟩; go_simp; (with_reducible rfl)
       rotate_left
       · simp only [Act.put, ua, ub, uc, uh, ui]; rfl
       refine uj (i := 13) (N := some 16) (v := ?_) (a' := ?_) (bA 23 16383) rfl rfl (ul HT_.out (by kernel_rfl)) (fun _ _ _ h => h) (Or.inl ⟨by rfl, ?_⟩) ?_ ?_; rotate_left
       · intro w'; go_simp; (with_reducible rfl)
       rotate_left
       · simp only [Act.put, ua, ub, uc, uh, ui]; rfl
       refine one_ (i := 14) (N := some 17) #[yY, yY, yY, yY, yY, yY, yY, yY, yY, yY, yY, yY, yY, yY, yY, xX, xX, xX, xX, xX, xX, xX, xX] rfl rfl (one_of HT_.out (by kernel_rfl)) (by decide) (fun K hK => ?_); refine goes_ Try.func98 (by kernel_rfl) rfl #[.int .i64 (l0_1.length : Int)] (by rfl) rfl rfl (by (try simp only [un, uu, uv]); first | done | rfl | (simp only [ur, uq]; rfl)) ?_; (with_reducible refine (block_Level.calls k (l0_1.length : Int) t102 _ A4.out).mono ?_); rintro e w' ⟨rfl, ⟨nd, rfl⟩⟩; refine ⟨_, rfl, ?_⟩; refine hK.out _ _ ⟨(uk BK101.out 0).trans rfl, (uk BK101.out 1).trans rfl⟩ (fun hHeld => ?_); clear hK K; refine xj (a' := ?_) ?_ ?_; rotate_left
       · show Act.put _ (some 17) _ = _
         simp only [Act.put, ua, ub, uc, uh, ui]; rfl
       refine uj (i := 15) (N := some 18) (v := ?_) (a' := ?_) (bA 23 65535) rfl rfl (ul HT_.out (by kernel_rfl)) (fun _ _ _ h => h) (Or.inl ⟨by rfl, ?_⟩) ?_ ?_; rotate_left
       · intro w'; go_simp; (with_reducible rfl)
       rotate_left
       · simp only [Act.put, ua, ub, uc, uh, ui]; rfl
       refine uj (i := 16) (N := some 19) (v := ?_) (a' := ?_) (bA 23 131071) rfl rfl (ul HT_.out (by kernel_rfl)) (fun _ _ _ h => h) (Or.inl ⟨by rfl, ?_⟩) ?_ ?_; rotate_left
       · intro w'; go_simp; (with_reducible rfl)
       rotate_left
       · simp only [Act.put, ua, ub, uc, uh, ui]; rfl
       refine uj (i := 17) (N := some 20) (v := ?_) (a' := ?_) (bA 23 262143) rfl rfl (ul HT_.out (by kernel_rfl)) (fun _ _ _ h => h) (Or.inl ⟨by rfl, ?_⟩) ?_ ?_; rotate_left
       · intro w'; go_simp; (with_reducible rfl)
       rotate_left
       · simp only [Act.put, ua, ub, uc, uh, ui]; rfl
       refine uj (i := 18) (N := some 21) (v := ?_) (a' := ?_) (bA 23 524287) rfl rfl (ul HT_.out (by kernel_rfl)) (fun _ _ _ h => h) (Or.inl ⟨by rfl, ?_⟩) ?_ ?_; rotate_left
       · intro w'; go_simp; (with_reducible rfl)
       rotate_left
       · simp only [Act.put, ua, ub, uc, uh, ui]; rfl
       refine xk (i := 19) (N := some 22) (v := ?_) (a' := ?_) (bA 23 1048575) rfl rfl (xc HT_.out HW_.out (by kernel_rfl)) (fun _ _ _ h => h) (Or.inl ⟨by rfl, ?_⟩) hHeld ?_ ?_; rotate_left
       · rintro w' ⟨s0, s1⟩; go_simp; (with_reducible rfl)
       rotate_left
       · simp only [Act.put, ua, ub, uc, uh, ui]; rfl
       refine one_ (i := 20) (N := some 23) #[yY, yY, yY, yY, yY, yY, yY, yY, yY, yY, yY, yY, yY, yY, yY, yY, yY, yY, yY, yY, yY, xX, xX] rfl rfl (one_of HT_.out (by kernel_rfl)) (by decide) (fun K hK => ?_); refine goes_ Try.func106 (by kernel_rfl) rfl #[.slice A0_1 l0_1.length c0_1] (by rfl) rfl rfl (by (try simp only [un, uu, uv]); first | done | rfl | (simp only [ur, uq]; rfl)) ?_; (with_reducible refine (entry_Sorted.calls k _ _ l0_1 t103 _ ?side1 ?side2 A6.out).mono ?_); (case side1 => repeat (first | exact (xb HR0_1.out (by repeat (first | (with_reducible first | exact HB.out | apply uf | apply ud | apply ue | refine um ?_ GE101.out) | exact HB.out))) | (with_reducible refine xi ?_ _) | (with_reducible refine xh ?_ _) | (with_reducible refine xn ?_))); (case side2 => exact HC0_1.out); rintro e w9 ⟨rfl, hb⟩; refine ⟨_, rfl, ?_⟩; have n0_ := Aside0.mk (vw (g := gb101) (o := .cells #[.int .i64 a0_0, .slice A0_1 l0_1.length c0_1] 84 (0, 0)) (by (with_reducible repeat (first | refine ux ?_ _ | refine uz ?_ | refine uy ?_ _)); exact BK101.out) hb); have n1_ := Aside0.mk (uo (by repeat (first | (with_reducible first | exact HB.out | apply uf | apply ud | apply ue | refine um ?_ GE101.out) | exact HB.out)) hb); clear BK101 HB; have BK101 := n0_; have HB := n1_; clear n0_ n1_; (try clear hb); (try clear hb2); (try clear hk); (try clear hi); refine hK.out _ _ ⟨(uk BK101.out 0).trans rfl, (uk BK101.out 1).trans rfl⟩ (fun hHeld => ?_); clear hK K; refine xj (a' := ?_) ?_ ?_; rotate_left
       · show Act.put _ (some 23) _ = _
         simp only [Act.put, ua, ub, uc, uh, ui]; rfl
       refine uj (i := 21) (N := some 24) (v := ?_) (a' := ?_) (bA 23 4194303) rfl rfl (ul HT_.out (by kernel_rfl)) (fun _ _ _ h => h) (Or.inl ⟨by rfl, ?_⟩) ?_ ?_; rotate_left
       · intro w'; go_simp; (with_reducible rfl)
       rotate_left
       · simp only [Act.put, ua, ub, uc, uh, ui]; rfl
       refine uj (i := 22) (N := some 2) (v := ?_) (a' := ?_) (bA 23 8388607) rfl rfl (ul HT_.out (by kernel_rfl)) (fun _ _ _ h => h) (Or.inl ⟨by rfl, ?_⟩) ?_ ?_; rotate_left
       · intro w'; go_simp; (with_reducible rfl)
       rotate_left
       · simp only [Act.put, ua, ub, uc, uh, ui]; rfl
       refine done_ (done_of HT_.out (by kernel_rfl)) ?_
       try go_wp2
       go_ret
       exact ⟨by first | rfl | (simp [errW_none, errW_some] <;> rfl) | (simp [*, errW_none, errW_some] <;> rfl), by repeat (first | (with_reducible first | exact HB.out | apply uf | apply ud | apply ue | refine um ?_ GE101.out) | exact HB.out)⟩
     · rw [if_neg c5] at H; have c5b0 : (a0_0 == t102) = false := beq_eq_false_iff_ne.mpr c5; have c5b1 : (a0_0 != t102) = true := bne_iff_ne.mpr c5; obtain rfl := Option.some.inj H; go_enter Try.func69, Try.ntmps69
       try go_wp2_with (first | ((with_reducible refine xm (N := 1) rfl ?_); (try (refine xw (by rfl) ?_; dsimp only)); refine xl ?hg (N := 1) ?hd (cs := #[.int .i64 a0_0, .slice A0_1 l0_1.length c0_1]) (t := 84) ?hr ?_; (case hd => rfl); (case hg => rfl); (case hr => first | (go_simp; done) | (go_simp; rfl)); intro gb101 hg w10 hbox hb; have n0_ := Aside0.mk (uo (by repeat (first | (with_reducible first | exact HB.out | apply uf | apply ud | apply ue) | exact HB.out)) hb); have n1_ := Aside0.mk (hbox); have n2_ := Aside0.mk ((by rw [hg]; exact (ut (by repeat (first | (with_reducible first | exact HB.out | apply uf | apply ud | apply ue) | exact HB.out))) : w.heap.size ≤ gb101)); have n3_ := Aside0.mk ((by rw [hg]; exact (ut (by repeat (first | (with_reducible first | exact HB.out | apply uf | apply ud | apply ue) | exact HB.out))) : w.heap.size ≤ gb101)); clear HB; have HB := n0_; have BK101 := n1_; have GW101 := n2_; have GE101 := n3_; clear n0_ n1_ n2_ n3_; clear hb hbox hg))
       have n0_ := Aside0.mk (uz BK101.out); have n1_ := Aside0.mk (ue HB.out); clear BK101 HB; have BK101 := n0_; have HB := n1_; clear n0_ n1_; refine start_ (n := 23) (S := fun w' => w'.cell? ⟨gb101, 0, none⟩ = some (.int .i64 a0_0) ∧ w'.cell? ⟨gb101, 1, none⟩ = some (.slice A0_1 l0_1.length c0_1)) (ds := []) #[xX, xX, xX, xX, xX, xX, xX, xX, xX, xX, xX, xX, xX, xX, xX, xX, xX, xX, xX, xX, xX, xX, xX] (by kernel_rfl) rfl rfl ⟨(uk BK101.out 0).trans rfl, (uk BK101.out 1).trans rfl⟩ (fun hHeld => ?_); refine xv block_Block_Ok.tab1 block_Block_Ok.bits1 (fun HT_ HW_ => ?_); generalize w10.drew = w11 at BK101 HB hHeld ⊢; refine uj (i := 0) (N := some 3) (v := ?_) (a' := ?_) (bA 23 1) rfl rfl (ul HT_.out (by kernel_rfl)) (fun _ _ _ h => h) (Or.inl ⟨by rfl, ?_⟩) ?_ ?_; rotate_left
       · intro w'; go_simp; (with_reducible rfl)
       rotate_left
       · simp only [Act.put, ua, ub, uc, uh, ui]; rfl
       refine xk (i := 1) (N := some 4) (v := ?_) (a' := ?_) (bA 23 3) rfl rfl (xc HT_.out HW_.out (by kernel_rfl)) (fun _ _ _ h => h) (Or.inl ⟨by rfl, ?_⟩) hHeld ?_ ?_; rotate_left
       · rintro w' ⟨s0, s1⟩; go_simp; (with_reducible rfl)
       rotate_left
       · simp only [Act.put, ua, ub, uc, uh, ui]; rfl
       refine uj (i := 2) (N := some 5) (v := ?_) (a' := ?_) (bA 23 7) rfl rfl (ul HT_.out (by kernel_rfl)) (fun _ _ _ h => h) (Or.inl ⟨by rfl, ?_⟩) ?_ ?_; rotate_left
       · intro w'; go_simp; (with_reducible rfl)
       rotate_left
       · simp only [Act.put, ua, ub, uc, uh, ui]; rfl
       refine uj (i := 3) (N := some 6) (v := ?_) (a' := ?_) (bA 23 15) rfl rfl (ul HT_.out (by kernel_rfl)) (fun _ _ _ h => h) (Or.inl ⟨by rfl, ?_⟩) ?_ ?_; rotate_left
       · intro w'; go_simp; (with_reducible rfl)
       rotate_left
       · simp only [Act.put, ua, ub, uc, uh, ui]; rfl
       refine uj (i := 4) (N := some 7) (v := ?_) (a' := ?_) (bA 23 31) rfl rfl (ul HT_.out (by kernel_rfl)) (fun _ _ _ h => h) (Or.inl ⟨by rfl, ?_⟩) ?_ ?_; rotate_left
       · intro w'; go_simp; (with_reducible rfl)
       rotate_left
       · simp only [Act.put, ua, ub, uc, uh, ui]; rfl
       refine xk (i := 5) (N := some 8) (v := ?_) (a' := ?_) (bA 23 63) rfl rfl (xc HT_.out HW_.out (by kernel_rfl)) (fun _ _ _ h => h) (Or.inl ⟨by rfl, ?_⟩) hHeld ?_ ?_; rotate_left
       · rintro w' ⟨s0, s1⟩; go_simp; (with_reducible rfl)
       rotate_left
       · simp only [Act.put, ua, ub, uc, uh, ui]; rfl
       refine uj (i := 6) (N := some 9) (v := ?_) (a' := ?_) (bA 23 127) rfl rfl (ul HT_.out (by kernel_rfl)) (fun _ _ _ h => h) (Or.inl ⟨by rfl, ?_⟩) ?_ ?_; rotate_left
       · intro w'; go_simp; (with_reducible rfl)
       rotate_left
       · simp only [Act.put, ua, ub, uc, uh, ui]; rfl
       refine uj (i := 7) (N := some 10) (v := ?_) (a' := ?_) (bA 23 255) rfl rfl (ul HT_.out (by kernel_rfl)) (fun _ _ _ h => h) (Or.inl ⟨by rfl, ?_⟩) ?_ ?_; rotate_left
       · intro w'; go_simp; (with_reducible rfl)
       rotate_left
       · simp only [Act.put, ua, ub, uc, uh, ui]; rfl
       refine uj (i := 8) (N := some 11) (v := ?_) (a' := ?_) (bA 23 511) rfl rfl (ul HT_.out (by kernel_rfl)) (fun _ _ _ h => h) (Or.inl ⟨by rfl, ?_⟩) ?_ ?_; rotate_left
       · intro w'; go_simp; (with_reducible rfl)
       rotate_left
       · simp only [Act.put, ua, ub, uc, uh, ui]; rfl
       refine uj (i := 9) (N := some 12) (v := ?_) (a' := ?_) (bA 23 1023) rfl rfl (ul HT_.out (by kernel_rfl)) (fun _ _ _ h => h) (Or.inl ⟨by rfl, ?_⟩) ?_ ?_; rotate_left
       · intro w'; go_simp; (with_reducible rfl)
       rotate_left
       · simp only [Act.put, ua, ub, uc, uh, ui]; rfl
       refine uj (i := 11) (N := some 14) (v := ?_) (a' := ?_) (bA 23 3071) rfl rfl (ul HT_.out (by kernel_rfl)) (fun _ _ _ h => h) (Or.inl ⟨by rfl, ?_⟩) ?_ ?_; rotate_left
       · intro w'; go_simp; (with_reducible rfl)
       rotate_left
       · simp only [Act.put, ua, ub, uc, uh, ui]; rfl
       refine xk (i := 10) (N := some 13) (v := ?_) (a' := ?_) (bA 23 4095) rfl rfl (xc HT_.out HW_.out (by kernel_rfl)) (fun _ _ _ h => h) (Or.inl ⟨by rfl, ?_⟩) hHeld ?_ ?_; rotate_left
       · rintro w' ⟨s0, s1⟩; go_simp; (with_reducible rfl)
       rotate_left
       · simp only [Act.put, ua, ub, uc, uh, ui]; rfl
       refine xk (i := 12) (N := some 15) (v := ?_) (a' := ?_) (bA 23 8191) rfl rfl (xc HT_.out HW_.out (by kernel_rfl)) (fun _ _ _ h => h) (Or.inl ⟨by rfl, ?_⟩) hHeld ?_ ?_; rotate_left
       · rintro w' ⟨s0, s1⟩; go_simp; (with_reducible rfl)
       rotate_left
       · simp only [Act.put, ua, ub, uc, uh, ui]; rfl
       refine uj (i := 13) (N := some 16) (v := ?_) (a' := ?_) (bA 23 16383) rfl rfl (ul HT_.out (by kernel_rfl)) (fun _ _ _ h => h) (Or.inl ⟨by rfl, ?_⟩) ?_ ?_; rotate_left
       · intro w'; go_simp; (with_reducible rfl)
       rotate_left
       · simp only [Act.put, ua, ub, uc, uh, ui]; rfl
       refine one_ (i := 14) (N := some 17) #[yY, yY, yY, yY, yY, yY, yY, yY, yY, yY, yY, yY, yY, yY, yY, xX, xX, xX, xX, xX, xX, xX, xX] rfl rfl (one_of HT_.out (by kernel_rfl)) (by decide) (fun K hK => ?_); refine goes_ Try.func98 (by kernel_rfl) rfl #[.int .i64 (l0_1.length : Int)] (by rfl) rfl rfl (by (try simp only [un, uu, uv]); first | done | rfl | (simp only [ur, uq]; rfl)) ?_; (with_reducible refine (block_Level.calls k (l0_1.length : Int) t102 _ A4.out).mono ?_); rintro e w' ⟨rfl, ⟨nd, rfl⟩⟩; refine ⟨_, rfl, ?_⟩; refine hK.out _ _ ⟨(uk BK101.out 0).trans rfl, (uk BK101.out 1).trans rfl⟩ (fun hHeld => ?_); clear hK K; refine xj (a' := ?_) ?_ ?_; rotate_left
       · show Act.put _ (some 17) _ = _
         simp only [Act.put, ua, ub, uc, uh, ui]; rfl
       refine uj (i := 15) (N := some 18) (v := ?_) (a' := ?_) (bA 23 65535) rfl rfl (ul HT_.out (by kernel_rfl)) (fun _ _ _ h => h) (Or.inl ⟨by rfl, ?_⟩) ?_ ?_; rotate_left
       · intro w'; go_simp; (with_reducible rfl)
       rotate_left
       · simp only [Act.put, ua, ub, uc, uh, ui]; rfl
       refine uj (i := 16) (N := some 19) (v := ?_) (a' := ?_) (bA 23 131071) rfl rfl (ul HT_.out (by kernel_rfl)) (fun _ _ _ h => h) (Or.inl ⟨by rfl, ?_⟩) ?_ ?_; rotate_left
       · intro w'; go_simp; (with_reducible rfl)
       rotate_left
       · simp only [Act.put, ua, ub, uc, uh, ui]; rfl
       refine uj (i := 17) (N := some 20) (v := ?_) (a' := ?_) (bA 23 262143) rfl rfl (ul HT_.out (by kernel_rfl)) (fun _ _ _ h => h) (Or.inl ⟨by rfl, ?_⟩) ?_ ?_; rotate_left
       · intro w'; go_simp; (with_reducible rfl)
       rotate_left
       · simp only [Act.put, ua, ub, uc, uh, ui]; rfl
       refine uj (i := 18) (N := some 21) (v := undef) (a' := ?_) (bA 23 524287) rfl rfl (ul HT_.out (by kernel_rfl)) (fun _ _ _ h => h) (Or.inr ⟨by rfl, rfl⟩) ?_ ?_; rotate_left
       · simp only [Act.put, ua, ub, uc, uh, ui]; rfl
       refine uj (i := 19) (N := some 22) (v := undef) (a' := ?_) (bA 23 1048575) rfl rfl (ul HT_.out (by kernel_rfl)) (fun _ _ _ h => h) (Or.inr ⟨by rfl, rfl⟩) ?_ ?_; rotate_left
       · simp only [Act.put, ua, ub, uc, uh, ui]; rfl
       refine uj (i := 20) (N := some 23) (v := undef) (a' := ?_) (bA 23 2097151) rfl rfl (ul HT_.out (by kernel_rfl)) (fun _ _ _ h => h) (Or.inr ⟨by rfl, rfl⟩) ?_ ?_; rotate_left
       · simp only [Act.put, ua, ub, uc, uh, ui]; rfl
       refine uj (i := 21) (N := some 24) (v := ?_) (a' := ?_) (bA 23 4194303) rfl rfl (ul HT_.out (by kernel_rfl)) (fun _ _ _ h => h) (Or.inl ⟨by rfl, ?_⟩) ?_ ?_; rotate_left
       · intro w'; go_simp; (with_reducible rfl)
       rotate_left
       · simp only [Act.put, ua, ub, uc, uh, ui]; rfl
       refine uj (i := 22) (N := some 2) (v := ?_) (a' := ?_) (bA 23 8388607) rfl rfl (ul HT_.out (by kernel_rfl)) (fun _ _ _ h => h) (Or.inl ⟨by rfl, ?_⟩) ?_ ?_; rotate_left
       · intro w'; go_simp; (with_reducible rfl)
       rotate_left
       · simp only [Act.put, ua, ub, uc, uh, ui]; rfl
       refine done_ (done_of HT_.out (by kernel_rfl)) ?_
       try go_wp2
       go_ret
       exact ⟨by first | rfl | (simp [errW_none, errW_some] <;> rfl) | (simp [*, errW_none, errW_some] <;> rfl), by repeat (first | (with_reducible first | exact HB.out | apply uf | apply ud | apply ue | refine um ?_ GE101.out) | exact HB.out)⟩
   · rw [if_neg c3] at H; have c3b0 : decide (a0_0 ≤ 62) = false := decide_eq_false c3; clear c3; obtain rfl := Option.some.inj H; go_enter Try.func69, Try.ntmps69
     try go_wp2_with (first | ((with_reducible refine xm (N := 1) rfl ?_); (try (refine xw (by rfl) ?_; dsimp only)); refine xl ?hg (N := 1) ?hd (cs := #[.int .i64 a0_0, .slice A0_1 l0_1.length c0_1]) (t := 84) ?hr ?_; (case hd => rfl); (case hg => rfl); (case hr => first | (go_simp; done) | (go_simp; rfl)); intro gb101 hg w12 hbox hb; have n0_ := Aside0.mk (uo (by repeat (first | (with_reducible first | exact HB.out | apply uf | apply ud | apply ue) | exact HB.out)) hb); have n1_ := Aside0.mk (hbox); have n2_ := Aside0.mk ((by rw [hg]; exact (ut (by repeat (first | (with_reducible first | exact HB.out | apply uf | apply ud | apply ue) | exact HB.out))) : w.heap.size ≤ gb101)); have n3_ := Aside0.mk ((by rw [hg]; exact (ut (by repeat (first | (with_reducible first | exact HB.out | apply uf | apply ud | apply ue) | exact HB.out))) : w.heap.size ≤ gb101)); clear HB; have HB := n0_; have BK101 := n1_; have GW101 := n2_; have GE101 := n3_; clear n0_ n1_ n2_ n3_; clear hb hbox hg))
     have n0_ := Aside0.mk (uz BK101.out); have n1_ := Aside0.mk (ue HB.out); clear BK101 HB; have BK101 := n0_; have HB := n1_; clear n0_ n1_; refine start_ (n := 23) (S := fun w' => w'.cell? ⟨gb101, 0, none⟩ = some (.int .i64 a0_0) ∧ w'.cell? ⟨gb101, 1, none⟩ = some (.slice A0_1 l0_1.length c0_1)) (ds := []) #[xX, xX, xX, xX, xX, xX, xX, xX, xX, xX, xX, xX, xX, xX, xX, xX, xX, xX, xX, xX, xX, xX, xX] (by kernel_rfl) rfl rfl ⟨(uk BK101.out 0).trans rfl, (uk BK101.out 1).trans rfl⟩ (fun hHeld => ?_); refine xv block_Block_Ok.tab1 block_Block_Ok.bits1 (fun HT_ HW_ => ?_); generalize w12.drew = w13 at BK101 HB hHeld ⊢; refine uj (i := 0) (N := some 3) (v := ?_) (a' := ?_) (bA 23 1) rfl rfl (ul HT_.out (by kernel_rfl)) (fun _ _ _ h => h) (Or.inl ⟨by rfl, ?_⟩) ?_ ?_; rotate_left
     · intro w'; go_simp; (with_reducible rfl)
     rotate_left
     · simp only [Act.put, ua, ub, uc, uh, ui]; rfl
     refine xk (i := 1) (N := some 4) (v := ?_) (a' := ?_) (bA 23 3) rfl rfl (xc HT_.out HW_.out (by kernel_rfl)) (fun _ _ _ h => h) (Or.inl ⟨by rfl, ?_⟩) hHeld ?_ ?_; rotate_left
     · rintro w' ⟨s0, s1⟩; go_simp; (with_reducible rfl)
     rotate_left
     · simp only [Act.put, ua, ub, uc, uh, ui]; rfl
     refine uj (i := 2) (N := some 5) (v := ?_) (a' := ?_) (bA 23 7) rfl rfl (ul HT_.out (by kernel_rfl)) (fun _ _ _ h => h) (Or.inl ⟨by rfl, ?_⟩) ?_ ?_; rotate_left
     · intro w'; go_simp; (with_reducible rfl)
     rotate_left
     · simp only [Act.put, ua, ub, uc, uh, ui]; rfl
     refine uj (i := 3) (N := some 6) (v := ?_) (a' := ?_) (bA 23 15) rfl rfl (ul HT_.out (by kernel_rfl)) (fun _ _ _ h => h) (Or.inl ⟨by rfl, ?_⟩) ?_ ?_; rotate_left
     · intro w'; go_simp; (with_reducible rfl)
     rotate_left
     · simp only [Act.put, ua, ub, uc, uh, ui]; rfl
     refine uj (i := 4) (N := some 7) (v := ?_) (a' := ?_) (bA 23 31) rfl rfl (ul HT_.out (by kernel_rfl)) (fun _ _ _ h => h) (Or.inl ⟨by rfl, ?_⟩) ?_ ?_; rotate_left
     · intro w'; go_simp; (with_reducible rfl)
     rotate_left
     · simp only [Act.put, ua, ub, uc, uh, ui]; rfl
     refine xk (i := 5) (N := some 8) (v := ?_) (a' := ?_) (bA 23 63) rfl rfl (xc HT_.out HW_.out (by kernel_rfl)) (fun _ _ _ h => h) (Or.inl ⟨by rfl, ?_⟩) hHeld ?_ ?_; rotate_left
     · rintro w' ⟨s0, s1⟩; go_simp; (with_reducible rfl)
     rotate_left
     · simp only [Act.put, ua, ub, uc, uh, ui]; rfl
     refine uj (i := 6) (N := some 9) (v := ?_) (a' := ?_) (bA 23 127) rfl rfl (ul HT_.out (by kernel_rfl)) (fun _ _ _ h => h) (Or.inl ⟨by rfl, ?_⟩) ?_ ?_; rotate_left
     · intro w'; go_simp; (with_reducible rfl)
     rotate_left
     · simp only [Act.put, ua, ub, uc, uh, ui]; rfl
     refine uj (i := 7) (N := some 10) (v := ?_) (a' := ?_) (bA 23 255) rfl rfl (ul HT_.out (by kernel_rfl)) (fun _ _ _ h => h) (Or.inl ⟨by rfl, ?_⟩) ?_ ?_; rotate_left
     · intro w'; go_simp; (with_reducible rfl)
     rotate_left
     · simp only [Act.put, ua, ub, uc, uh, ui]; rfl
     refine uj (i := 8) (N := some 11) (v := ?_) (a' := ?_) (bA 23 511) rfl rfl (ul HT_.out (by kernel_rfl)) (fun _ _ _ h => h) (Or.inl ⟨by rfl, ?_⟩) ?_ ?_; rotate_left
     · intro w'; go_simp; (with_reducible rfl)
     rotate_left
     · simp only [Act.put, ua, ub, uc, uh, ui]; rfl
     refine uj (i := 9) (N := some 12) (v := undef) (a' := ?_) (bA 23 1023) rfl rfl (ul HT_.out (by kernel_rfl)) (fun _ _ _ h => h) (Or.inr ⟨by rfl, rfl⟩) ?_ ?_; rotate_left
     · simp only [Act.put, ua, ub, uc, uh, ui]; rfl
     refine uj (i := 10) (N := some 13) (v := undef) (a' := ?_) (bA 23 2047) rfl rfl (ul HT_.out (by kernel_rfl)) (fun _ _ _ h => h) (Or.inr ⟨by rfl, rfl⟩) ?_ ?_; rotate_left
     · simp only [Act.put, ua, ub, uc, uh, ui]; rfl
     refine uj (i := 11) (N := some 14) (v := undef) (a' := ?_) (bA 23 4095) rfl rfl (ul HT_.out (by kernel_rfl)) (fun _ _ _ h => h) (Or.inr ⟨by rfl, rfl⟩) ?_ ?_; rotate_left
     · simp only [Act.put, ua, ub, uc, uh, ui]; rfl
     refine uj (i := 12) (N := some 15) (v := undef) (a' := ?_) (bA 23 8191) rfl rfl (ul HT_.out (by kernel_rfl)) (fun _ _ _ h => h) (Or.inr ⟨by rfl, rfl⟩) ?_ ?_; rotate_left
     · simp only [Act.put, ua, ub, uc, uh, ui]; rfl
     refine uj (i := 13) (N := some 16) (v := undef) (a' := ?_) (bA 23 16383) rfl rfl (ul HT_.out (by kernel_rfl)) (fun _ _ _ h => h) (Or.inr ⟨by rfl, rfl⟩) ?_ ?_; rotate_left
     · simp only [Act.put, ua, ub, uc, uh, ui]; rfl
     refine uj (i := 14) (N := some 17) (v := undef) (a' := ?_) (bA 23 32767) rfl rfl (ul HT_.out (by kernel_rfl)) (fun _ _ _ h => h) (Or.inr ⟨by rfl, rfl⟩) ?_ ?_; rotate_left
     · simp only [Act.put, ua, ub, uc, uh, ui]; rfl
     refine uj (i := 15) (N := some 18) (v := undef) (a' := ?_) (bA 23 65535) rfl rfl (ul HT_.out (by kernel_rfl)) (fun _ _ _ h => h) (Or.inr ⟨by rfl, rfl⟩) ?_ ?_; rotate_left
     · simp only [Act.put, ua, ub, uc, uh, ui]; rfl
     refine uj (i := 16) (N := some 19) (v := ?_) (a' := ?_) (bA 23 131071) rfl rfl (ul HT_.out (by kernel_rfl)) (fun _ _ _ h => h) (Or.inl ⟨by rfl, ?_⟩) ?_ ?_; rotate_left
     · intro w'; go_simp; (with_reducible rfl)
     rotate_left
     · simp only [Act.put, ua, ub, uc, uh, ui]; rfl
     refine uj (i := 17) (N := some 20) (v := ?_) (a' := ?_) (bA 23 262143) rfl rfl (ul HT_.out (by kernel_rfl)) (fun _ _ _ h => h) (Or.inl ⟨by rfl, ?_⟩) ?_ ?_; rotate_left
     · intro w'; go_simp; (with_reducible rfl)
     rotate_left
     · simp only [Act.put, ua, ub, uc, uh, ui]; rfl
     refine uj (i := 18) (N := some 21) (v := undef) (a' := ?_) (bA 23 524287) rfl rfl (ul HT_.out (by kernel_rfl)) (fun _ _ _ h => h) (Or.inr ⟨by rfl, rfl⟩) ?_ ?_; rotate_left
     · simp only [Act.put, ua, ub, uc, uh, ui]; rfl
     refine uj (i := 19) (N := some 22) (v := undef) (a' := ?_) (bA 23 1048575) rfl rfl (ul HT_.out (by kernel_rfl)) (fun _ _ _ h => h) (Or.inr ⟨by rfl, rfl⟩) ?_ ?_; rotate_left
     · simp only [Act.put, ua, ub, uc, uh, ui]; rfl
     refine uj (i := 20) (N := some 23) (v := undef) (a' := ?_) (bA 23 2097151) rfl rfl (ul HT_.out (by kernel_rfl)) (fun _ _ _ h => h) (Or.inr ⟨by rfl, rfl⟩) ?_ ?_; rotate_left
     · simp only [Act.put, ua, ub, uc, uh, ui]; rfl
     refine uj (i := 21) (N := some 24) (v := ?_) (a' := ?_) (bA 23 4194303) rfl rfl (ul HT_.out (by kernel_rfl)) (fun _ _ _ h => h) (Or.inl ⟨by rfl, ?_⟩) ?_ ?_; rotate_left
     · intro w'; go_simp; (with_reducible rfl)
     rotate_left
     · simp only [Act.put, ua, ub, uc, uh, ui]; rfl
     refine uj (i := 22) (N := some 2) (v := ?_) (a' := ?_) (bA 23 8388607) rfl rfl (ul HT_.out (by kernel_rfl)) (fun _ _ _ h => h) (Or.inl ⟨by rfl, ?_⟩) ?_ ?_; rotate_left
     · intro w'; go_simp; (with_reducible rfl)
     rotate_left
     · simp only [Act.put, ua, ub, uc, uh, ui]; rfl
     refine done_ (done_of HT_.out (by kernel_rfl)) ?_
     try go_wp2
     go_ret
     exact ⟨by first | rfl | (simp [errW_none, errW_some] <;> rfl) | (simp [*, errW_none, errW_some] <;> rfl), by repeat (first | (with_reducible first | exact HB.out | apply uf | apply ud | apply ue | refine um ?_ GE101.out) | exact HB.out)⟩
 · rw [if_neg c2] at H; have c2b0 : decide (0 ≤ a0_0) = false := decide_eq_false c2; clear c2; obtain rfl := Option.some.inj H; go_enter Try.func69, Try.ntmps69
   try go_wp2_with (first | ((with_reducible refine xm (N := 1) rfl ?_); (try (refine xw (by rfl) ?_; dsimp only)); refine xl ?hg (N := 1) ?hd (cs := #[.int .i64 a0_0, .slice A0_1 l0_1.length c0_1]) (t := 84) ?hr ?_; (case hd => rfl); (case hg => rfl); (case hr => first | (go_simp; done) | (go_simp; rfl)); intro gb101 hg w14 hbox hb; have n0_ := Aside0.mk (uo (by repeat (first | (with_reducible first | exact HB.out | apply uf | apply ud | apply ue) | exact HB.out)) hb); have n1_ := Aside0.mk (hbox); have n2_ := Aside0.mk ((by rw [hg]; exact (ut (by repeat (first | (with_reducible first | exact HB.out | apply uf | apply ud | apply ue) | exact HB.out))) : w.heap.size ≤ gb101)); have n3_ := Aside0.mk ((by rw [hg]; exact (ut (by repeat (first | (with_reducible first | exact HB.out | apply uf | apply ud | apply ue) | exact HB.out))) : w.heap.size ≤ gb101)); clear HB; have HB := n0_; have BK101 := n1_; have GW101 := n2_; have GE101 := n3_; clear n0_ n1_ n2_ n3_; clear hb hbox hg))
   have n0_ := Aside0.mk (uz BK101.out); have n1_ := Aside0.mk (ue HB.out); clear BK101 HB; have BK101 := n0_; have HB := n1_; clear n0_ n1_; refine start_ (n := 23) (S := fun w' => w'.cell? ⟨gb101, 0, none⟩ = some (.int .i64 a0_0) ∧ w'.cell? ⟨gb101, 1, none⟩ = some (.slice A0_1 l0_1.length c0_1)) (ds := []) #[xX, xX, xX, xX, xX, xX, xX, xX, xX, xX, xX, xX, xX, xX, xX, xX, xX, xX, xX, xX, xX, xX, xX] (by kernel_rfl) rfl rfl ⟨(uk BK101.out 0).trans rfl, (uk BK101.out 1).trans rfl⟩ (fun hHeld => ?_); refine xv block_Block_Ok.tab1 block_Block_Ok.bits1 (fun HT_ HW_ => ?_); generalize w14.drew = w15 at BK101 HB hHeld ⊢; refine uj (i := 0) (N := some 3) (v := ?_) (a' := ?_) (bA 23 1) rfl rfl (ul HT_.out (by kernel_rfl)) (fun _ _ _ h => h) (Or.inl ⟨by rfl, ?_⟩) ?_ ?_; rotate_left
   · intro w'; go_simp; (with_reducible rfl)
   rotate_left
   · simp only [Act.put, ua, ub, uc, uh, ui]; rfl
   refine xk (i := 1) (N := some 4) (v := ?_) (a' := ?_) (bA 23 3) rfl rfl (xc HT_.out HW_.out (by kernel_rfl)) (fun _ _ _ h => h) (Or.inl ⟨by rfl, ?_⟩) hHeld ?_ ?_; rotate_left
   · rintro w' ⟨s0, s1⟩; go_simp; (with_reducible rfl)
   rotate_left
   · simp only [Act.put, ua, ub, uc, uh, ui]; rfl
   refine uj (i := 2) (N := some 5) (v := ?_) (a' := ?_) (bA 23 7) rfl rfl (ul HT_.out (by kernel_rfl)) (fun _ _ _ h => h) (Or.inl ⟨by rfl, ?_⟩) ?_ ?_; rotate_left
   · intro w'; go_simp; (with_reducible rfl)
   rotate_left
   · simp only [Act.put, ua, ub, uc, uh, ui]; rfl
   refine uj (i := 3) (N := some 6) (v := ?_) (a' := ?_) (bA 23 15) rfl rfl (ul HT_.out (by kernel_rfl)) (fun _ _ _ h => h) (Or.inl ⟨by rfl, ?_⟩) ?_ ?_; rotate_left
   · intro w'; go_simp; (with_reducible rfl)
   rotate_left
   · simp only [Act.put, ua, ub, uc, uh, ui]; rfl
   refine uj (i := 4) (N := some 7) (v := undef) (a' := ?_) (bA 23 31) rfl rfl (ul HT_.out (by kernel_rfl)) (fun _ _ _ h => h) (Or.inr ⟨by rfl, rfl⟩) ?_ ?_; rotate_left
   · simp only [Act.put, ua, ub, uc, uh, ui]; rfl
   refine uj (i := 5) (N := some 8) (v := undef) (a' := ?_) (bA 23 63) rfl rfl (ul HT_.out (by kernel_rfl)) (fun _ _ _ h => h) (Or.inr ⟨by rfl, rfl⟩) ?_ ?_; rotate_left
   · simp only [Act.put, ua, ub, uc, uh, ui]; rfl
   refine uj (i := 6) (N := some 9) (v := undef) (a' := ?_) (bA 23 127) rfl rfl (ul HT_.out (by kernel_rfl)) (fun _ _ _ h => h) (Or.inr ⟨by rfl, rfl⟩) ?_ ?_; rotate_left
   · simp only [Act.put, ua, ub, uc, uh, ui]; rfl
   refine uj (i := 7) (N := some 10) (v := ?_) (a' := ?_) (bA 23 255) rfl rfl (ul HT_.out (by kernel_rfl)) (fun _ _ _ h => h) (Or.inl ⟨by rfl, ?_⟩) ?_ ?_; rotate_left
   · intro w'; go_simp; (with_reducible rfl)
   rotate_left
   · simp only [Act.put, ua, ub, uc, uh, ui]; rfl
   refine uj (i := 8) (N := some 11) (v := ?_) (a' := ?_) (bA 23 511) rfl rfl (ul HT_.out (by kernel_rfl)) (fun _ _ _ h => h) (Or.inl ⟨by rfl, ?_⟩) ?_ ?_; rotate_left
   · intro w'; go_simp; (with_reducible rfl)
   rotate_left
   · simp only [Act.put, ua, ub, uc, uh, ui]; rfl
   refine uj (i := 9) (N := some 12) (v := undef) (a' := ?_) (bA 23 1023) rfl rfl (ul HT_.out (by kernel_rfl)) (fun _ _ _ h => h) (Or.inr ⟨by rfl, rfl⟩) ?_ ?_; rotate_left
   · simp only [Act.put, ua, ub, uc, uh, ui]; rfl
   refine uj (i := 10) (N := some 13) (v := undef) (a' := ?_) (bA 23 2047) rfl rfl (ul HT_.out (by kernel_rfl)) (fun _ _ _ h => h) (Or.inr ⟨by rfl, rfl⟩) ?_ ?_; rotate_left
   · simp only [Act.put, ua, ub, uc, uh, ui]; rfl
   refine uj (i := 11) (N := some 14) (v := undef) (a' := ?_) (bA 23 4095) rfl rfl (ul HT_.out (by kernel_rfl)) (fun _ _ _ h => h) (Or.inr ⟨by rfl, rfl⟩) ?_ ?_; rotate_left
   · simp only [Act.put, ua, ub, uc, uh, ui]; rfl
   refine uj (i := 12) (N := some 15) (v := undef) (a' := ?_) (bA 23 8191) rfl rfl (ul HT_.out (by kernel_rfl)) (fun _ _ _ h => h) (Or.inr ⟨by rfl, rfl⟩) ?_ ?_; rotate_left
   · simp only [Act.put, ua, ub, uc, uh, ui]; rfl
   refine uj (i := 13) (N := some 16) (v := undef) (a' := ?_) (bA 23 16383) rfl rfl (ul HT_.out (by kernel_rfl)) (fun _ _ _ h => h) (Or.inr ⟨by rfl, rfl⟩) ?_ ?_; rotate_left
   · simp only [Act.put, ua, ub, uc, uh, ui]; rfl
   refine uj (i := 14) (N := some 17) (v := undef) (a' := ?_) (bA 23 32767) rfl rfl (ul HT_.out (by kernel_rfl)) (fun _ _ _ h => h) (Or.inr ⟨by rfl, rfl⟩) ?_ ?_; rotate_left
   · simp only [Act.put, ua, ub, uc, uh, ui]; rfl
   refine uj (i := 15) (N := some 18) (v := undef) (a' := ?_) (bA 23 65535) rfl rfl (ul HT_.out (by kernel_rfl)) (fun _ _ _ h => h) (Or.inr ⟨by rfl, rfl⟩) ?_ ?_; rotate_left
   · simp only [Act.put, ua, ub, uc, uh, ui]; rfl
   refine uj (i := 16) (N := some 19) (v := ?_) (a' := ?_) (bA 23 131071) rfl rfl (ul HT_.out (by kernel_rfl)) (fun _ _ _ h => h) (Or.inl ⟨by rfl, ?_⟩) ?_ ?_; rotate_left
   · intro w'; go_simp; (with_reducible rfl)
   rotate_left
   · simp only [Act.put, ua, ub, uc, uh, ui]; rfl
   refine uj (i := 17) (N := some 20) (v := ?_) (a' := ?_) (bA 23 262143) rfl rfl (ul HT_.out (by kernel_rfl)) (fun _ _ _ h => h) (Or.inl ⟨by rfl, ?_⟩) ?_ ?_; rotate_left
   · intro w'; go_simp; (with_reducible rfl)
   rotate_left
   · simp only [Act.put, ua, ub, uc, uh, ui]; rfl
   refine uj (i := 18) (N := some 21) (v := undef) (a' := ?_) (bA 23 524287) rfl rfl (ul HT_.out (by kernel_rfl)) (fun _ _ _ h => h) (Or.inr ⟨by rfl, rfl⟩) ?_ ?_; rotate_left
   · simp only [Act.put, ua, ub, uc, uh, ui]; rfl
   refine uj (i := 19) (N := some 22) (v := undef) (a' := ?_) (bA 23 1048575) rfl rfl (ul HT_.out (by kernel_rfl)) (fun _ _ _ h => h) (Or.inr ⟨by rfl, rfl⟩) ?_ ?_; rotate_left
   · simp only [Act.put, ua, ub, uc, uh, ui]; rfl
   refine uj (i := 20) (N := some 23) (v := undef) (a' := ?_) (bA 23 2097151) rfl rfl (ul HT_.out (by kernel_rfl)) (fun _ _ _ h => h) (Or.inr ⟨by rfl, rfl⟩) ?_ ?_; rotate_left
   · simp only [Act.put, ua, ub, uc, uh, ui]; rfl
   refine uj (i := 21) (N := some 24) (v := ?_) (a' := ?_) (bA 23 4194303) rfl rfl (ul HT_.out (by kernel_rfl)) (fun _ _ _ h => h) (Or.inl ⟨by rfl, ?_⟩) ?_ ?_; rotate_left
   · intro w'; go_simp; (with_reducible rfl)
   rotate_left
   · simp only [Act.put, ua, ub, uc, uh, ui]; rfl
   refine uj (i := 22) (N := some 2) (v := ?_) (a' := ?_) (bA 23 8388607) rfl rfl (ul HT_.out (by kernel_rfl)) (fun _ _ _ h => h) (Or.inl ⟨by rfl, ?_⟩) ?_ ?_; rotate_left
   · intro w'; go_simp; (with_reducible rfl)
   rotate_left
   · simp only [Act.put, ua, ub, uc, uh, ui]; rfl
   refine done_ (done_of HT_.out (by kernel_rfl)) ?_
   try go_wp2
   go_ret
   exact ⟨by first | rfl | (simp [errW_none, errW_some] <;> rfl) | (simp [*, errW_none, errW_some] <;> rfl), by repeat (first | (with_reducible first | exact HB.out | apply uf | apply ud | apply ue | refine um ?_ GE101.out) | exact HB.out)⟩
end Go.Proofs.Ytdfndglenbckhaa.V
end
section
set_option linter.unusedVariables false
set_option linter.unusedSimpArgs false
namespace Go.Proofs.Ytdfndglenbckhaa.V
open Go.RowKit Go.Proofs.YtdfndglenbckhaaW.PrintWords Go.Proofs.YtdfndglenbckhaaW.PrintLast Go.Proofs.YtdfndglenbckhaaW.PrintMore
def encE (e : E) : List Value := [.int .u64 e.f0, .int .i64 e.f1]
def encs (l : List E) : List Value := l.flatMap encE
theorem encs_cons (a : E) (l : List E) : encs (a :: l) = encE a ++ encs l := rfl
theorem encs_length (l : List E) : (encs l).length = l.length * 2 := by
 induction l with
 | nil => rfl
 | cons a l ih => rw [encs_cons, List.length_append, ih, List.length_cons]; simp [encE]; omega
theorem encs_drop (l : List E) (n : Nat) : (encs l).drop (n * 2) = encs (l.drop n) := by
 induction l generalizing n with
 | nil => simp [encs]
 | cons a l ih =>
  cases n with
  | zero => simp [encs]
  | succ n =>
   rw [encs_cons, List.drop_succ_cons, Nat.succ_mul, List.drop_append]
   have : (encE a).length = 2 := rfl
   rw [this, show n * 2 + 2 - 2 = n * 2 by omega, ih, List.drop_of_length_le (by rw [this]; omega), List.nil_append]
theorem encs_reps (w : World) (base : Nat) (ok : Nat → Prop) (l : List E) : Reps (k46.M w base ok) k46.sz l (encs l) := by
 have hsz : k46.sz = 2 := rfl
 rw [hsz]
 refine ⟨encs_length l, fun j p hj => ?_⟩
 rw [encs_drop]
 obtain ⟨hjl, he⟩ := List.getElem?_eq_some_iff.1 hj
 have : l.drop j = p :: l.drop (j + 1) := by rw [← he]; exact List.drop_eq_getElem_cons hjl
 rw [this, encs_cons]
 exact k46_mkM w base ok p
theorem row_close {e : Nat} {w : World} {base : Nat} {ok : Nat → Prop} {g c : Nat} {cur : Array Value} {l : List E} (hb : base ≤ g) (hok : ok g) (hh : w.heap[g]? = some (.cells cur e (0, 0))) (hc : c ≤ 9223372036854775807) (hl : l.length ≤ c) (hs : cur.size = c * 2)
 (ht : cur.toList.take (l.length * 2) = encs l) : k46.R e w base ok (.slice (some ⟨g, 0, none⟩) l.length c) l :=
 ⟨fun k hk => (by simpa [Value.ownBlock] using hk : g = k) ▸ hok, encs l, ⟨encs_length l, .inr ⟨g, c, cur, rfl, hb, hh, hl, by unfold maxLen; omega, hs, ht⟩⟩, encs_reps _ _ _ _⟩
theorem run_copy_row2 {P : Program} (w : World) (dT sT ty elem : TypeId) (g o dLen dCap : Nat) (a : Addr) (sLen sCap : Nat) (cur : Array Value) (t : TypeId) (cs : List Value)
 (hu : P.underlying dT = some (.slice elem)) (hs : (P.info? elem).map (·.size) = some 2)
 (hg : w.heap[g]? = some (.cells cur t (0, 0))) (hn : cs.length = Nat.min sLen dLen * 2)
 (hsrc : ∀ j v, cs[j]? = some v → w.cell? (a.add j) = some v) (hfit : o + cs.length ≤ cur.size) (h1 : ∀ v ∈ cs, v.oneCell' = true) :
 (Builtin.copy_ #[dT, sT] ty #[.slice (some ⟨g, o, none⟩) dLen dCap, .slice (some a) sLen sCap]).run P w =
  .ok (goInt (Nat.min sLen dLen : Nat)) (w.setRow g (cur.toList.take o ++ cs ++ cur.toList.drop (o + cs.length)).toArray) := by
 have hl := run_loadCells_list (P := P) w a cs hsrc
 have hst := run_storeCells_at P g o t cs 0 cur w hg (by simpa using hfit) h1
 cases hq : P.info? elem with
 | none => simp [hq] at hs
 | some i =>
  have hi : i.size = 2 := by simpa [hq] using hs
  simp [Builtin.copy_, run_underlying hu, Builtin.lenOf, Builtin.firstCells, sizeOf, typeInfo, hq, hi, ← hn, hl, hst]
theorem cell_row {w : World} {g : Nat} {cur : Array Value} {t : TypeId} (hg : w.heap[g]? = some (.cells cur t (0, 0))) (j : Nat) : w.cell? ⟨g, j, none⟩ = cur[j]? := by
 simp [World.cell?, hg]
theorem frozen_row {w : World} {g : Nat} {cur : Array Value} {t : TypeId} (hg : w.heap[g]? = some (.cells cur t (0, 0))) (j : Nat) : w.frozen? ⟨g, j, none⟩ = false := by
 simp [World.frozen?, hg]
theorem shape_row {w : World} {g : Nat} {cur : Array Value} {t : TypeId} (hg : w.heap[g]? = some (.cells cur t (0, 0))) : w.shape? g = some (t, cur.size) := by
 simp [World.shape?, hg]
end Go.Proofs.Ytdfndglenbckhaa.V
end
section
set_option linter.unusedVariables false
set_option linter.unusedSimpArgs false
namespace Go.Proofs.Ytdfndglenbckhaa.V
open Go.RowKit Go.Proofs.YtdfndglenbckhaaW.PrintWords Go.Proofs.YtdfndglenbckhaaW.PrintLast Go.Proofs.YtdfndglenbckhaaW.PrintMore
def api_Entry_116.f (l0 : List E) (n : Int) : Option (List E) := if l0.length = 0 ∧ 0 ≤ n ∧ n < 1000000000 then some [] else none
set_option maxHeartbeats 4000000 in
set_option maxRecDepth 100000 in
theorem grow_some (m : Nat) (w : World) (hm : 0 < m) (hl : m < 1000000000) :
 Calls Try.prog 116 #[.slice none 0 0, .int .i64 m] w fun e w' => ∃ v0_ : Value, e = .returned (v0_) ∧ Kd.R k46 46 w' w.heap.size (fun _ => True) v0_ [] ∧ Below w.heap.size w w' := by
 have u30 := Try.underlying30
 obtain ⟨i0, hi0, hzz⟩ := Option.map_eq_some_iff.1 info46
 simp only [Prod.mk.injEq] at hzz
 obtain ⟨hz0, hz1, hz2⟩ := hzz
 have hold : (Builtin.firstCells i0.size 0 (.slice none 0 0)).run Try.prog w.drew = .ok (([] : List Value)).toArray w.drew := run_firstCells_none w.drew i0.size 0 0 0
 obtain ⟨G, hG⟩ : ∃ G, G = grownCap w m 0 46 := ⟨_, rfl⟩
 obtain ⟨ROW, hROW⟩ : ∃ ROW : Array Value, ROW = (([] : List Value)).toArray ++ Builtin.zeroCells (Value.agg #[(.int .u64 0), (.int .i64 0)]).cells m ++ Builtin.zeroCells (Value.agg #[(.int .u64 0), (.int .i64 0)]).cells (G - m) := ⟨_, rfl⟩
 have hrz : ∀ ty, (Builtin.append_ #[30, 3] ty #[.slice none 0 0, .int .i64 (m : Int)]).run Try.prog w =
  .ok (.slice (some ⟨w.heap.size, 0, none⟩) m G) (w.drew.alloc (.cells ROW 46)) := fun ty => by
  have h := Lib.run_append_grow_zeros (P := Try.prog) w 30 3 ty 46 i0 _ .i64 .i64 Try.underlying30 Try.underlying3 hi0 hz0 none 0 0 [] hold m hm (by rw [hz1]; omega) (by omega) (by omega) (by rw [hz2]; omega)
   (by rw [hz2, Nat.zero_add]; exact growslice_fits (by omega) (by omega))
  rw [Nat.zero_add, ← hG, ← hROW] at h
  exact h
 have hGm : m ≤ G := by rw [hG]; exact grownCap_ge w _ _ _
 have hG63 : G ≤ 9223372036854775807 := by
  have := grownCap_le_maxLen w m 0 46 (by unfold maxLen; omega)
  rw [← hG] at this
  unfold maxLen at this
  omega
 have hRs : ROW.size = G * 2 := by
  rw [hROW]
  simp only [Array.size_append, List.size_toArray, List.length_nil, Builtin.zeroCells, Array.size_map, Array.size_range]
  show 0 + m * 2 + (G - m) * 2 = G * 2
  omega
 have hend : ∀ W : World, W = (w.alloc (.cells ROW 46)).drew → Kd.R k46 46 W w.heap.size (fun _ => True) (.slice (some ⟨w.heap.size, 0, none⟩) 0 G) [] ∧ Below w.heap.size w W := fun W hW => by
  have hH : W.heap[w.heap.size]? = some (.cells ROW 46 (0, 0)) := by rw [hW]; show (w.heap.push _)[w.heap.size]? = _; simp
  refine ⟨row_close (l := []) (Nat.le_refl _) trivial hH hG63 (Nat.zero_le _) hRs (by simp [encs]), ?_⟩
  rw [hW]
  exact below_drew (below_alloc (Below.refl _ _) _)
 have HEND := Aside0.mk hend
 clear hend hRs hROW hG hold hi0 hz0 hz1 hz2 hl
 have hp : (0 : Int) < (m : Int) := by omega
 have hn : ¬ (m : Int) < 0 := by omega
 go_enter Try.func116, Try.ntmps116
 go_wp2_with (at_builtin; refine Lib.wpList_append_run _ rfl _ _ _ _ rfl _ _ rfl rfl _ _ (hrz _) ?_)
 go_ret
 exact ⟨_, rfl, (HEND.out _ rfl).1, (HEND.out _ rfl).2⟩
set_option maxHeartbeats 4000000 in
set_option maxRecDepth 100000 in
theorem grow_none (w : World) :
 Calls Try.prog 116 #[.slice none 0 0, .int .i64 0] w fun e w' => ∃ v0_ : Value, e = .returned (v0_) ∧ Kd.R k46 46 w' w.heap.size (fun _ => True) v0_ [] ∧ Below w.heap.size w w' := by
 go_enter Try.func116, Try.ntmps116
 go_wp2
 go_ret
 exact ⟨_, rfl, Kd.R_nil _ _ _ _ _, Below.refl _ _⟩
theorem api_Entry_116.calls (n : Int) (r : List E) (w : World) (h : api_Entry_116.f [] n = some r) :
 Calls Try.prog 116 #[.slice none 0 0, .int .i64 n] w fun e w' => ∃ v0_ : Value, e = .returned (v0_) ∧ Kd.R k46 46 w' w.heap.size (fun _ => True) v0_ r ∧ Below w.heap.size w w' := by
 unfold api_Entry_116.f at h
 by_cases hc : ([] : List E).length = 0 ∧ 0 ≤ n ∧ n < 1000000000
 · rw [if_pos hc] at h
   obtain rfl := Option.some.inj h
   obtain ⟨_, h0, h1⟩ := hc
   obtain ⟨m, rfl⟩ := Int.eq_ofNat_of_zero_le h0
   by_cases hm : m = 0
   · subst hm; exact grow_none w
   · exact grow_some m w (by omega) (by omega)
 · rw [if_neg hc] at h
   cases h
end Go.Proofs.Ytdfndglenbckhaa.V
end
