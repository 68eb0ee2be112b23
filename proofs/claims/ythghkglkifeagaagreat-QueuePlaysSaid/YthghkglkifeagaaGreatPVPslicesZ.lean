-- a text of this work, without what this claim doesn't use (wip/shake.py)
import Derived.Test.YthghkglkifeagaaGreatPVPvergerref5
import Derived.Test.YthghkglkifeagaaGreatPVPentry1
import Derived.Test.YthghkglkifeagaaGreatPVPslices1
set_option maxRecDepth 100000
set_option maxHeartbeats 8000000
namespace Go.Proofs.YthghkglkifeagaaGreat.V
open Go.RowKit Go.Proofs.YthghkglkifeagaaGreatW.PrintWords Go.Proofs.YthghkglkifeagaaGreatW.PrintLast Go.Proofs.YthghkglkifeagaaGreatW.PrintMore
attribute [local go_sem] max2_int min2_int max_two min_two max_three min_three max_four min_four
set_option linter.unusedVariables false
set_option linter.unusedSimpArgs false
mutual
def api_Entry_123.l0 : Nat → List (S33) → Int → Int → Int → Option ((List (S33)))
 | 0, _, _, _, _ => none
 | k + 1, x0, x1, x10, x11 => if x10 < x11 then (if 0 ≤ (wrap64 ((IntKind.u64.wrap (wrap64 (x10 + x11))) / 2)) then (if (wrap64 ((IntKind.u64.wrap (wrap64 (x10 + x11))) / 2)) < (x0.length : Int) then (if 0 ≤ x1 then (if x1 < (x0.length : Int) then ((entry_Sort_1.f k ((a0a x0 (wrap64 ((IntKind.u64.wrap (wrap64 (x10 + x11))) / 2))).f0) ((a0a x0 (wrap64 ((IntKind.u64.wrap (wrap64 (x10 + x11))) / 2))).f1) ((a0a x0 x1).f0) ((a0a x0 x1).f1)).bind fun t103 => (if t103 < 0 then (api_Entry_123.l0 k x0 x1 (wrap64 ((wrap64 ((IntKind.u64.wrap (wrap64 (x10 + x11))) / 2)) + 1)) x11) else (api_Entry_123.l0 k x0 x1 x10 (wrap64 ((IntKind.u64.wrap (wrap64 (x10 + x11))) / 2))))) else (none)) else (none)) else (none)) else (none)) else (api_Entry_123.l1 k x0 x10 x1)
def api_Entry_123.l1 : Nat → List (S33) → Int → Int → Option ((List (S33)))
 | 0, _, _, _ => none
 | k + 1, x0, x10, x13 => if x13 < (wrap64 (x10 - 1)) then (if 0 ≤ (wrap64 (x13 + 1)) then (if (wrap64 (x13 + 1)) < (x0.length : Int) then (if 0 ≤ x13 then (if x13 < (x0.length : Int) then (api_Entry_123.l1 k ((x0.set (x13 : Int).toNat (⟨(a0a x0 (wrap64 (x13 + 1))).f0, (a0a x0 (wrap64 (x13 + 1))).f1⟩ : S33)).set ((wrap64 (x13 + 1)) : Int).toNat (⟨(a0a x0 x13).f0, (a0a x0 x13).f1⟩ : S33)) x10 (wrap64 (x13 + 1))) else (none)) else (none)) else (none)) else (none)) else (some x0)
def api_Entry_123.l2 : Nat → List (S33) → Int → Int → Int → Option ((List (S33)))
 | 0, _, _, _, _ => none
 | k + 1, x0, x2, x14, x15 => if x14 < x15 then (if 0 ≤ x2 then (if x2 < (x0.length : Int) then (if 0 ≤ (wrap64 ((IntKind.u64.wrap (wrap64 (x14 + x15))) / 2)) then (if (wrap64 ((IntKind.u64.wrap (wrap64 (x14 + x15))) / 2)) < (x0.length : Int) then ((entry_Sort_1.f k ((a0a x0 x2).f0) ((a0a x0 x2).f1) ((a0a x0 (wrap64 ((IntKind.u64.wrap (wrap64 (x14 + x15))) / 2))).f0) ((a0a x0 (wrap64 ((IntKind.u64.wrap (wrap64 (x14 + x15))) / 2))).f1)).bind fun t110 => (if t110 < 0 then (api_Entry_123.l2 k x0 x2 x14 (wrap64 ((IntKind.u64.wrap (wrap64 (x14 + x15))) / 2))) else (api_Entry_123.l2 k x0 x2 (wrap64 ((wrap64 ((IntKind.u64.wrap (wrap64 (x14 + x15))) / 2)) + 1)) x15))) else (none)) else (none)) else (none)) else (none)) else (api_Entry_123.l3 k x0 x14 x2)
def api_Entry_123.l3 : Nat → List (S33) → Int → Int → Option ((List (S33)))
 | 0, _, _, _ => none
 | k + 1, x0, x14, x17 => if x17 > x14 then (if 0 ≤ (wrap64 (x17 - 1)) then (if (wrap64 (x17 - 1)) < (x0.length : Int) then (if 0 ≤ x17 then (if x17 < (x0.length : Int) then (api_Entry_123.l3 k ((x0.set (x17 : Int).toNat (⟨(a0a x0 (wrap64 (x17 - 1))).f0, (a0a x0 (wrap64 (x17 - 1))).f1⟩ : S33)).set ((wrap64 (x17 - 1)) : Int).toNat (⟨(a0a x0 x17).f0, (a0a x0 x17).f1⟩ : S33)) x14 (wrap64 (x17 - 1))) else (none)) else (none)) else (none)) else (none)) else (some x0)
def api_Entry_123.j4 : Nat → List (S33) → Int → Int → Int → Int → Int → Int → Int → Option ((List (S33)))
 | 0, _, _, _, _, _, _, _, _ => none
 | k + 1, x0, x1, x2, x3, x18, x19, x20, x21 => api_Entry_123.l4 k x0 x1 x2 x3 x18 x19 x20 x21 (wrap64 (x19 - 1))
def api_Entry_123.l4 : Nat → List (S33) → Int → Int → Int → Int → Int → Int → Int → Int → Option ((List (S33)))
 | 0, _, _, _, _, _, _, _, _, _ => none
 | k + 1, x0, x1, x2, x3, x18, x19, x20, x21, x22 => if x20 < x21 then (if 0 ≤ (wrap64 (x22 - (wrap64 ((IntKind.u64.wrap (wrap64 (x20 + x21))) / 2)))) then (if (wrap64 (x22 - (wrap64 ((IntKind.u64.wrap (wrap64 (x20 + x21))) / 2)))) < (x0.length : Int) then (if 0 ≤ (wrap64 ((IntKind.u64.wrap (wrap64 (x20 + x21))) / 2)) then (if (wrap64 ((IntKind.u64.wrap (wrap64 (x20 + x21))) / 2)) < (x0.length : Int) then ((entry_Sort_1.f k ((a0a x0 (wrap64 (x22 - (wrap64 ((IntKind.u64.wrap (wrap64 (x20 + x21))) / 2))))).f0) ((a0a x0 (wrap64 (x22 - (wrap64 ((IntKind.u64.wrap (wrap64 (x20 + x21))) / 2))))).f1) ((a0a x0 (wrap64 ((IntKind.u64.wrap (wrap64 (x20 + x21))) / 2))).f0) ((a0a x0 (wrap64 ((IntKind.u64.wrap (wrap64 (x20 + x21))) / 2))).f1)).bind fun t117 => (if t117 < 0 then (api_Entry_123.l4 k x0 x1 x2 x3 x18 x19 x20 (wrap64 ((IntKind.u64.wrap (wrap64 (x20 + x21))) / 2)) x22) else (api_Entry_123.l4 k x0 x1 x2 x3 x18 x19 (wrap64 ((wrap64 ((IntKind.u64.wrap (wrap64 (x20 + x21))) / 2)) + 1)) x21 x22))) else (none)) else (none)) else (none)) else (none)) else (if x20 < x2 then (api_Entry_123.j6 k x0 x1 x2 x3 x18 x20 (wrap64 (x19 - x20)) (decide (x2 < (wrap64 (x19 - x20))))) else (api_Entry_123.j6 k x0 x1 x2 x3 x18 x20 (wrap64 (x19 - x20)) false))
def api_Entry_123.j6 : Nat → List (S33) → Int → Int → Int → Int → Int → Int → Bool → Option ((List (S33)))
 | 0, _, _, _, _, _, _, _, _ => none
 | k + 1, x0, x1, x2, x3, x18, x20, x24, x185 => if x185 = true then ((api_Entry_130.f k x0 x20 x2 x24).bind fun t118 => (api_Entry_123.j7 k t118 x1 x3 x18 x20 x24)) else (api_Entry_123.j7 k x0 x1 x3 x18 x20 x24)
def api_Entry_123.j7 : Nat → List (S33) → Int → Int → Int → Int → Int → Option ((List (S33)))
 | 0, _, _, _, _, _, _ => none
 | k + 1, x0, x1, x3, x18, x20, x24 => if x1 < x20 then (api_Entry_123.j8 k x0 x1 x3 x18 x20 x24 (decide (x20 < x18))) else (api_Entry_123.j8 k x0 x1 x3 x18 x20 x24 false)
def api_Entry_123.j8 : Nat → List (S33) → Int → Int → Int → Int → Int → Bool → Option ((List (S33)))
 | 0, _, _, _, _, _, _, _ => none
 | k + 1, x0, x1, x3, x18, x20, x24, x199 => if x199 = true then ((api_Entry_123.f k x0 x1 x20 x18).bind fun t119 => (if x18 < x24 then (if x24 < x3 then ((api_Entry_123.f k t119 x18 x24 x3).bind fun t120 => (some t120)) else (some t119)) else (some t119))) else (if x18 < x24 then (if x24 < x3 then ((api_Entry_123.f k x0 x18 x24 x3).bind fun t121 => (some t121)) else (some x0)) else (some x0))
def api_Entry_123.f : Nat → List (S33) → Int → Int → Int → Option ((List (S33)))
 | 0, _, _, _, _ => none
 | k + 1, l0, a1, a2, a3 => if (wrap64 (a2 - a1)) = 1 then (api_Entry_123.l0 k l0 a1 a2 a3) else (if (wrap64 (a3 - a2)) = 1 then (api_Entry_123.l2 k l0 a2 a1 a2) else (if a2 > (wrap64 ((IntKind.u64.wrap (wrap64 (a1 + a3))) / 2)) then (api_Entry_123.j4 k l0 a1 a2 a3 (wrap64 ((IntKind.u64.wrap (wrap64 (a1 + a3))) / 2)) (wrap64 ((wrap64 ((IntKind.u64.wrap (wrap64 (a1 + a3))) / 2)) + a2)) (wrap64 ((wrap64 ((wrap64 ((IntKind.u64.wrap (wrap64 (a1 + a3))) / 2)) + a2)) - a3)) (wrap64 ((IntKind.u64.wrap (wrap64 (a1 + a3))) / 2))) else (api_Entry_123.j4 k l0 a1 a2 a3 (wrap64 ((IntKind.u64.wrap (wrap64 (a1 + a3))) / 2)) (wrap64 ((wrap64 ((IntKind.u64.wrap (wrap64 (a1 + a3))) / 2)) + a2)) a1 a2)))
end
def api_Entry_123.T5 : Bool × List (List Nat × List Nat) := (true, [([], []), ([], []), ([], []), ([1, 2], [1, 2]), ([3], [3]), ([], []), ([], []), ([5, 6], [5, 6]), ([7], [7]), ([0, 4, 8], [0, 4, 8]), ([9], [9])])
def api_Entry_123.B5 : List Nat := [0, 0, 0, 6, 14, 0, 0, 96, 224, 511, 1023]
theorem api_Entry_123.tab5 : rtab .any (opsOf Tryz.f123 5) = api_Entry_123.T5 := by kernel_rfl
theorem api_Entry_123.bits5 : waitsOk api_Entry_123.T5.2 api_Entry_123.B5 = true := by kernel_rfl
def api_Entry_123.T11 : Bool × List (List Nat × List Nat) := (true, [([], []), ([], []), ([], []), ([], []), ([3], [3]), ([], []), ([], []), ([6], [6]), ([5, 7], [5, 7]), ([8], [8]), ([], []), ([], []), ([10, 11], [10, 11]), ([12], [12]), ([0, 1, 0, 1, 5, 6, 7, 8, 9, 13], [0, 1]), ([14, 9, 0, 1, 5, 6, 7, 8, 9, 13], [9, 14]), ([2, 4, 0, 1, 2, 3, 4, 5, 6, 7, 8, 9, 10, 11, 12, 13, 14, 15], [2, 4]), ([16, 13, 15, 0, 1, 2, 3, 4, 5, 6, 7, 8, 9, 10, 11, 12, 13, 14, 15], [13, 16])])
def api_Entry_123.B11 : List Nat := [0, 0, 0, 0, 8, 0, 0, 64, 224, 480, 0, 0, 3072, 7168, 16355, 32739, 65535, 131071]
theorem api_Entry_123.tab11 : rtab .any (opsOf Tryz.f123 11) = api_Entry_123.T11 := by kernel_rfl
theorem api_Entry_123.bits11 : waitsOk api_Entry_123.T11.2 api_Entry_123.B11 = true := by kernel_rfl
def api_Entry_123.T17 : Bool × List (List Nat × List Nat) := (true, [([], []), ([], []), ([], []), ([1, 2], [1, 2]), ([3], [3]), ([], []), ([], []), ([5, 6], [5, 6]), ([7], [7]), ([0, 4, 8], [0, 4, 8]), ([9], [9]), ([10], [10])])
def api_Entry_123.B17 : List Nat := [0, 0, 0, 6, 14, 0, 0, 96, 224, 511, 1023, 2047]
theorem api_Entry_123.tab17 : rtab .any (opsOf Tryz.f123 17) = api_Entry_123.T17 := by kernel_rfl
theorem api_Entry_123.bits17 : waitsOk api_Entry_123.T17.2 api_Entry_123.B17 = true := by kernel_rfl
def api_Entry_123.T23 : Bool × List (List Nat × List Nat) := (true, [([], []), ([], []), ([], []), ([], []), ([3], [3]), ([], []), ([], []), ([6], [6]), ([5, 7], [5, 7]), ([8], [8]), ([], []), ([], []), ([10, 11], [10, 11]), ([12], [12]), ([0, 1, 0, 1, 5, 6, 7, 8, 9, 13], [0, 1]), ([14, 9, 0, 1, 5, 6, 7, 8, 9, 13], [9, 14]), ([2, 4, 0, 1, 2, 3, 4, 5, 6, 7, 8, 9, 10, 11, 12, 13, 14, 15], [2, 4]), ([16, 13, 15, 0, 1, 2, 3, 4, 5, 6, 7, 8, 9, 10, 11, 12, 13, 14, 15], [13, 16])])
def api_Entry_123.B23 : List Nat := [0, 0, 0, 0, 8, 0, 0, 64, 224, 480, 0, 0, 3072, 7168, 16355, 32739, 65535, 131071]
theorem api_Entry_123.tab23 : rtab .any (opsOf Tryz.f123 23) = api_Entry_123.T23 := by kernel_rfl
theorem api_Entry_123.bits23 : waitsOk api_Entry_123.T23.2 api_Entry_123.B23 = true := by kernel_rfl
def api_Entry_123.T35 : Bool × List (List Nat × List Nat) := (true, [([], []), ([], []), ([], []), ([], []), ([2, 3], [2, 3]), ([1, 4], [1, 4]), ([5], [5]), ([], []), ([], []), ([7, 8], [7, 8]), ([9], [9]), ([0, 6, 10], [0, 6, 10]), ([11], [11]), ([12], [12])])
def api_Entry_123.B35 : List Nat := [0, 0, 0, 0, 12, 30, 62, 0, 0, 384, 896, 2047, 4095, 8191]
theorem api_Entry_123.tab35 : rtab .any (opsOf Tryz.f123 35) = api_Entry_123.T35 := by kernel_rfl
theorem api_Entry_123.bits35 : waitsOk api_Entry_123.T35.2 api_Entry_123.B35 = true := by kernel_rfl
theorem api_Entry_123.calls (k : Nat) : ∀ (P0_ : Nat → Prop) (u9000_ : Value) (l0 : List (S33)) (a1 : Int) (a2 : Int) (a3 : Int)  (r : List (S33)) (w0 w : World) (hB : Below w0.heap.size w0 w) (ho0 : Kd.RC k33 33 w w0.heap.size P0_ u9000_ l0) (h : api_Entry_123.f k l0 a1 a2 a3 = some r),
 Calls Tryz.prog 123 #[u9000_, .int .i64 a1, .int .i64 a2, .int .i64 a3, .func (.func 85) #[] #[]] w fun e w' => e = .returned (.tuple #[]) ∧ Kd.RC k33 33 w' w0.heap.size (fun k_ => (P0_ k_ ∨ w.heap.size ≤ k_)) u9000_ r ∧ Below w0.heap.size w0 w' ∧ Kept w w' (fun k_ => P0_ k_) := by
 induction k using Nat.strongRecOn with
 | _ k ih =>
 intro P0_ u9000_ l0 a1 a2 a3 r w0 w hB ho0 h
 cases k with
 | zero => exact absurd h (by simp [api_Entry_123.f])
 | succ k =>
 simp only [api_Entry_123.f] at h; have hu33 := Tryz.underlying33; have HO0 := za (show Kd.RC k33 33 w w0.heap.size (fun k_ => (P0_ k_ ∨ w.heap.size ≤ k_)) u9000_ l0 from Kd.RC_mono ho0 (fun k_ hk => (.inl hk))); have HK := za (Kept.refl w (fun k_ => P0_ k_)); have HW0 := za hB.size; have HB := za hB; clear hB; have H : (if (wrap64 (a2 - a1)) = 1 then (api_Entry_123.l0 k l0 a1 a2 a3) else (if (wrap64 (a3 - a2)) = 1 then (api_Entry_123.l2 k l0 a2 a1 a2) else (if a2 > (wrap64 ((IntKind.u64.wrap (wrap64 (a1 + a3))) / 2)) then (api_Entry_123.j4 k l0 a1 a2 a3 (wrap64 ((IntKind.u64.wrap (wrap64 (a1 + a3))) / 2)) (wrap64 ((wrap64 ((IntKind.u64.wrap (wrap64 (a1 + a3))) / 2)) + a2)) (wrap64 ((wrap64 ((wrap64 ((IntKind.u64.wrap (wrap64 (a1 + a3))) / 2)) + a2)) - a3)) (wrap64 ((IntKind.u64.wrap (wrap64 (a1 + a3))) / 2))) else (api_Entry_123.j4 k l0 a1 a2 a3 (wrap64 ((IntKind.u64.wrap (wrap64 (a1 + a3))) / 2)) (wrap64 ((wrap64 ((IntKind.u64.wrap (wrap64 (a1 + a3))) / 2)) + a2)) a1 a2)))) = some r := h; clear h
 by_cases c6 : (wrap64 (a2 - a1)) = 1
 · rw [if_pos c6] at H; have c6b0 : ((wrap64 (a2 - a1)) == 1) = true := beq_iff_eq.mpr c6; have c6b1 : ((wrap64 (a2 - a1)) != 1) = false := bne_eq_false_iff_eq.mpr c6; clear c6; have H' := za H; clear H; go_enter Tryz.func123, Tryz.ntmps123
   go_wp2
   go_loopg [10, 11] k (fun kq v10 v11 w' => ∃ (x10_1 : Int) (x11_1 : Int), v10 = .int .i64 x10_1 ∧ v11 = .int .i64 x11_1 ∧ Aside0 (api_Entry_123.l0 kq l0 a1 x10_1 x11_1 = some r) ∧ Aside0 (kq ≤ k) ∧ Aside0 (Kd.RC k33 33 w' w0.heap.size (fun k_ => (P0_ k_ ∨ w.heap.size ≤ k_)) u9000_ l0) ∧ Aside0 (Kept w w' (fun k_ => P0_ k_)) ∧ Aside0 (Below w0.heap.size w0 w'))
   case atStart => exact ⟨(a2), (a3), rfl, rfl, H', ⟨ut _⟩, ⟨HO0.out⟩, ⟨HK.out⟩, ⟨HB.out⟩⟩
   case round =>
    clear H'
    try clear c6
    try clear c6b0
    try clear c6b1
    obtain ⟨x10_1, x11_1, rfl, rfl, HA, HK1, HO_0, HK, HB⟩ := hrel
    cases gk with
    | zero => exact absurd HA.out (by simp [api_Entry_123.l0])
    | succ k1 =>
     have H := HA.out; clear HA; simp only [api_Entry_123.l0] at H
     by_cases c7 : x10_1 < x11_1
     · rw [if_pos c7] at H; have c7b0 : decide (x10_1 < x11_1) = true := decide_eq_true c7; clear c7; obtain ⟨ji8, hji8⟩ : ∃ j_ : Int, (wrap64 ((IntKind.u64.wrap (wrap64 (x10_1 + x11_1))) / 2)) = j_ := ⟨_, rfl⟩; (replace H : (if 0 ≤ (ji8) then (if (ji8) < (l0.length : Int) then (if 0 ≤ a1 then (if a1 < (l0.length : Int) then ((entry_Sort_1.f k1 ((a0a l0 (ji8)).f0) ((a0a l0 (ji8)).f1) ((a0a l0 a1).f0) ((a0a l0 a1).f1)).bind fun t103 => (if t103 < 0 then (api_Entry_123.l0 k1 l0 a1 (wrap64 ((ji8) + 1)) x11_1) else (api_Entry_123.l0 k1 l0 a1 x10_1 ji8))) else (none)) else (none)) else (none)) else (none)) = some r := by first | (rw [hji8] at H; exact H) | (simp only [hji8] at H ⊢; exact H)); have hji8w : (IntKind.i64.wrap ((IntKind.u64.wrap (wrap64 (x10_1 + x11_1))) / 2)) = ji8 := (ue _).trans hji8
       by_cases c9 : 0 ≤ (ji8)
       · rw [if_pos c9] at H; have c9b0 : decide (0 ≤ (ji8)) = true := decide_eq_true c9; clear c9
         by_cases c10 : (ji8) < (l0.length : Int)
         · rw [if_pos c10] at H; have c10b0 : decide ((ji8) < (l0.length : Int)) = true := decide_eq_true c10; clear c10
           by_cases c11 : 0 ≤ a1
           · rw [if_pos c11] at H; have c11b0 : decide (0 ≤ a1) = true := decide_eq_true c11; clear c11
             by_cases c12 : a1 < (l0.length : Int)
             · rw [if_pos c12] at H; have c12b0 : decide (a1 < (l0.length : Int)) = true := decide_eq_true c12; clear c12; replace H := Option.bind_eq_some_iff.mp H; obtain ⟨t103, A130, H⟩ := H; replace H : (if t103 < 0 then (api_Entry_123.l0 k1 l0 a1 (wrap64 ((ji8) + 1)) x11_1) else (api_Entry_123.l0 k1 l0 a1 x10_1 ji8)) = some r := H; have A13 := za A130; clear A130
               by_cases c14 : t103 < 0
               · rw [if_pos c14] at H; have c14b0 : decide (t103 < 0) = true := decide_eq_true c14; clear c14
                 as_aux_lemma =>
                  have H' := za H; clear H
                  try go_wp2
                  have n0_ := za (xb HO_0.out); have n1_ := za (Kept.drew HK.out); have n2_ := za (us HB.out); clear HO_0 HK HB; have HO_0 := n0_; have HK := n1_; have HB := n2_; clear n0_ n1_ n2_; obtain ⟨Ao16, co16, eo16⟩ := vw HO_0.out; (first | subst eo16 | (injection eo16 with f1_ f2_ f3_; have f4_ := f1_.symm; have f5_ := f3_.symm; clear f1_ f2_ f3_; subst f4_; subst f5_)); have p101 : 0 ≤ ((ji8) : Int) := ud (by assumption); have q101 : (ji8) < (l0.length : Int) := ud (by assumption); obtain ⟨ad101, e101, hx101_0, hx101_1⟩ := a0e (uz HO_0.out).2.2 (ji8) p101 q101
                  cases e101
                  replace p101 := eq_true p101; replace q101 := eq_true q101; have p102 : 0 ≤ (a1 : Int) := ud (by assumption); have q102 : a1 < (l0.length : Int) := ud (by assumption); obtain ⟨ad102, e102, hx102_0, hx102_1⟩ := a0e (uz HO_0.out).2.2 a1 p102 q102; obtain rfl : ad101 = ad102 := (by injection e102); replace p102 := eq_true p102; replace q102 := eq_true q102; refine start_ (n := 11) (S := fun w' => w'.cell? (ad101.add (((ji8)).toNat * 2)) = some (.int .u64 ((a0a l0 (ji8)).f0)) ∧ w'.cell? ⟨(ad101.add (((ji8)).toNat * 2)).block, (ad101.add (((ji8)).toNat * 2)).off + 1, none⟩ = some (.int .i64 ((a0a l0 (ji8)).f1)) ∧ w'.cell? (ad101.add ((a1).toNat * 2)) = some (.int .u64 ((a0a l0 a1).f0)) ∧ w'.cell? ⟨(ad101.add ((a1).toNat * 2)).block, (ad101.add ((a1).toNat * 2)).off + 1, none⟩ = some (.int .i64 ((a0a l0 a1).f1))) (ds := []) #[xX, xX, xX, xX, xX, xX, xX, xX, xX, xX, xX] (by kernel_rfl) rfl rfl ⟨hx101_0, hx101_1, hx102_0, hx102_1⟩ (fun hHeld => ?_); refine with_tabW api_Entry_123.tab5 api_Entry_123.bits5 (fun HT_ HW_ => ?_); generalize wr.drew = w15 at HO_0 HK HB hx101_0 hx101_1 hx102_0 hx102_1 hHeld ⊢; refine pU (i := 0) (N := some 40) (bA 11 1) (um HT_.out (by kernel_rfl)) rfl ?_
                  refine pU (i := 1) (N := some 41) (bA 11 3) (um HT_.out (by kernel_rfl)) rfl ?_
                  refine pU (i := 2) (N := some 42) (bA 11 7) (um HT_.out (by kernel_rfl)) rfl ?_
                  refine pU (i := 3) (N := some 43) (bA 11 15) (um HT_.out (by kernel_rfl)) rfl ?_
                  refine pU (i := 5) (N := some 45) (bA 11 47) (um HT_.out (by kernel_rfl)) rfl ?_
                  refine pU (i := 6) (N := some 46) (bA 11 111) (um HT_.out (by kernel_rfl)) rfl ?_
                  refine pU (i := 7) (N := some 47) (bA 11 239) (um HT_.out (by kernel_rfl)) rfl ?_
                  refine tU (i := 4) (N := some 44) (bA 11 255) (vp HT_.out HW_.out (by kernel_rfl)) rfl hHeld (by (constructor; (rintro w' ⟨s0, s1, s2, s3⟩; go_simp; (with_reducible rfl)); (simp only [Act.put, ua, ub, uc, ue, uf]; rfl))) ?_
                  refine tU (i := 8) (N := some 48) (bA 11 511) (vp HT_.out HW_.out (by kernel_rfl)) rfl hHeld (by (constructor; (rintro w' ⟨s0, s1, s2, s3⟩; go_simp; (with_reducible rfl)); (simp only [Act.put, ua, ub, uc, ue, uf]; rfl))) ?_
                  refine one_ (i := 9) (N := some 49) (bA 11 1023) rfl rfl (one_of HT_.out (by kernel_rfl)) (by decide) (fun K hK => ?_); refine goesV_ Tryz.func85 (by kernel_rfl) rfl #[.agg #[.int .u64 ((a0a l0 (ji8)).f0), .int .i64 ((a0a l0 (ji8)).f1)], .agg #[.int .u64 ((a0a l0 a1).f0), .int .i64 ((a0a l0 a1).f1)]] (by rfl) rfl rfl (by rfl) (by (try simp only [ug, ul, uo]); first | done | (simp only [hji8]; rfl) | rfl | (simp only [uk, uj]; rfl)) ?_; (with_reducible refine (entry_Sort_1.calls k1 ((a0a l0 (ji8)).f0) ((a0a l0 (ji8)).f1) ((a0a l0 a1).f0) ((a0a l0 a1).f1) t103 _ A13.out).mono ?_); rintro e w17 ⟨rfl, hb⟩; have HS0_ := (hb.cell (World.block_lt_of_cell? _ _ (hHeld.1))).trans (hHeld.1); have HS1_ := (hb.cell (World.block_lt_of_cell? _ _ (hHeld.2.1))).trans (hHeld.2.1); have HS2_ := (hb.cell (World.block_lt_of_cell? _ _ (hHeld.2.2.1))).trans (hHeld.2.2.1); have HS3_ := (hb.cell (World.block_lt_of_cell? _ _ (hHeld.2.2.2))).trans (hHeld.2.2.2); refine ⟨_, rfl, ?_⟩; have n0_ := za (Kd.RC_below HO_0.out hb); have n1_ := za (Kept.below (S := (fun k_ => P0_ k_)) HK.out hb); have n2_ := za (ur HB.out hb); clear HO_0 HK HB; have HO_0 := n0_; have HK := n1_; have HB := n2_; clear n0_ n1_ n2_; (try clear hb); (try clear hk); (try clear hi); refine hK.out _ _ ⟨HS0_, HS1_, HS2_, HS3_⟩ (fun hHeld => ?_); clear hK K; refine vv (a' := ?_) ?_ ?_; rotate_left
                  · show Act.put _ (some 49) _ = _
                    simp only [Act.put, ua, ub, uc, ue, uf]; rfl
                  refine pU (i := 10) (N := some 50) (bA 11 2047) (um HT_.out (by kernel_rfl)) rfl ?_
                  refine done_ (done_of HT_.out (by kernel_rfl)) ?_
                  try go_wp2
                  go_roundg k1
                  case measure => have := HK1.out; omega
                  case rel => exact ⟨(wrap64 ((ji8) + 1)), (x11_1), (by first | rfl | (simp; done) | (simp only [← hji8] <;> (first | rfl | simp)) | (simp [*]; done)), rfl, H', ⟨by have := HK1.out; omega⟩, ⟨HO_0.out⟩, ⟨HK.out⟩, ⟨HB.out⟩⟩
               · rw [if_neg c14] at H; have c14b0 : decide (t103 < 0) = false := decide_eq_false c14; clear c14
                 as_aux_lemma =>
                  have H' := za H; clear H
                  try go_wp2
                  have n0_ := za (xb HO_0.out); have n1_ := za (Kept.drew HK.out); have n2_ := za (us HB.out); clear HO_0 HK HB; have HO_0 := n0_; have HK := n1_; have HB := n2_; clear n0_ n1_ n2_; obtain ⟨Ao19, co19, eo19⟩ := vw HO_0.out; (first | subst eo19 | (injection eo19 with f1_ f2_ f3_; have f4_ := f1_.symm; have f5_ := f3_.symm; clear f1_ f2_ f3_; subst f4_; subst f5_)); have p101 : 0 ≤ ((ji8) : Int) := ud (by assumption); have q101 : (ji8) < (l0.length : Int) := ud (by assumption); obtain ⟨ad101, e101, hx101_0, hx101_1⟩ := a0e (uz HO_0.out).2.2 (ji8) p101 q101
                  cases e101
                  replace p101 := eq_true p101; replace q101 := eq_true q101; have p102 : 0 ≤ (a1 : Int) := ud (by assumption); have q102 : a1 < (l0.length : Int) := ud (by assumption); obtain ⟨ad102, e102, hx102_0, hx102_1⟩ := a0e (uz HO_0.out).2.2 a1 p102 q102; obtain rfl : ad101 = ad102 := (by injection e102); replace p102 := eq_true p102; replace q102 := eq_true q102; refine start_ (n := 11) (S := fun w' => w'.cell? (ad101.add (((ji8)).toNat * 2)) = some (.int .u64 ((a0a l0 (ji8)).f0)) ∧ w'.cell? ⟨(ad101.add (((ji8)).toNat * 2)).block, (ad101.add (((ji8)).toNat * 2)).off + 1, none⟩ = some (.int .i64 ((a0a l0 (ji8)).f1)) ∧ w'.cell? (ad101.add ((a1).toNat * 2)) = some (.int .u64 ((a0a l0 a1).f0)) ∧ w'.cell? ⟨(ad101.add ((a1).toNat * 2)).block, (ad101.add ((a1).toNat * 2)).off + 1, none⟩ = some (.int .i64 ((a0a l0 a1).f1))) (ds := []) #[xX, xX, xX, xX, xX, xX, xX, xX, xX, xX, xX] (by kernel_rfl) rfl rfl ⟨hx101_0, hx101_1, hx102_0, hx102_1⟩ (fun hHeld => ?_); refine with_tabW api_Entry_123.tab5 api_Entry_123.bits5 (fun HT_ HW_ => ?_); generalize wr.drew = w18 at HO_0 HK HB hx101_0 hx101_1 hx102_0 hx102_1 hHeld ⊢; refine pU (i := 0) (N := some 40) (bA 11 1) (um HT_.out (by kernel_rfl)) rfl ?_
                  refine pU (i := 1) (N := some 41) (bA 11 3) (um HT_.out (by kernel_rfl)) rfl ?_
                  refine pU (i := 2) (N := some 42) (bA 11 7) (um HT_.out (by kernel_rfl)) rfl ?_
                  refine pU (i := 3) (N := some 43) (bA 11 15) (um HT_.out (by kernel_rfl)) rfl ?_
                  refine pU (i := 5) (N := some 45) (bA 11 47) (um HT_.out (by kernel_rfl)) rfl ?_
                  refine pU (i := 6) (N := some 46) (bA 11 111) (um HT_.out (by kernel_rfl)) rfl ?_
                  refine pU (i := 7) (N := some 47) (bA 11 239) (um HT_.out (by kernel_rfl)) rfl ?_
                  refine tU (i := 4) (N := some 44) (bA 11 255) (vp HT_.out HW_.out (by kernel_rfl)) rfl hHeld (by (constructor; (rintro w' ⟨s0, s1, s2, s3⟩; go_simp; (with_reducible rfl)); (simp only [Act.put, ua, ub, uc, ue, uf]; rfl))) ?_
                  refine tU (i := 8) (N := some 48) (bA 11 511) (vp HT_.out HW_.out (by kernel_rfl)) rfl hHeld (by (constructor; (rintro w' ⟨s0, s1, s2, s3⟩; go_simp; (with_reducible rfl)); (simp only [Act.put, ua, ub, uc, ue, uf]; rfl))) ?_
                  refine one_ (i := 9) (N := some 49) (bA 11 1023) rfl rfl (one_of HT_.out (by kernel_rfl)) (by decide) (fun K hK => ?_); refine goesV_ Tryz.func85 (by kernel_rfl) rfl #[.agg #[.int .u64 ((a0a l0 (ji8)).f0), .int .i64 ((a0a l0 (ji8)).f1)], .agg #[.int .u64 ((a0a l0 a1).f0), .int .i64 ((a0a l0 a1).f1)]] (by rfl) rfl rfl (by rfl) (by (try simp only [ug, ul, uo]); first | done | (simp only [hji8]; rfl) | rfl | (simp only [uk, uj]; rfl)) ?_; (with_reducible refine (entry_Sort_1.calls k1 ((a0a l0 (ji8)).f0) ((a0a l0 (ji8)).f1) ((a0a l0 a1).f0) ((a0a l0 a1).f1) t103 _ A13.out).mono ?_); rintro e w20 ⟨rfl, hb⟩; have HS0_ := (hb.cell (World.block_lt_of_cell? _ _ (hHeld.1))).trans (hHeld.1); have HS1_ := (hb.cell (World.block_lt_of_cell? _ _ (hHeld.2.1))).trans (hHeld.2.1); have HS2_ := (hb.cell (World.block_lt_of_cell? _ _ (hHeld.2.2.1))).trans (hHeld.2.2.1); have HS3_ := (hb.cell (World.block_lt_of_cell? _ _ (hHeld.2.2.2))).trans (hHeld.2.2.2); refine ⟨_, rfl, ?_⟩; have n0_ := za (Kd.RC_below HO_0.out hb); have n1_ := za (Kept.below (S := (fun k_ => P0_ k_)) HK.out hb); have n2_ := za (ur HB.out hb); clear HO_0 HK HB; have HO_0 := n0_; have HK := n1_; have HB := n2_; clear n0_ n1_ n2_; (try clear hb); (try clear hk); (try clear hi); refine hK.out _ _ ⟨HS0_, HS1_, HS2_, HS3_⟩ (fun hHeld => ?_); clear hK K; refine vv (a' := ?_) ?_ ?_; rotate_left
                  · show Act.put _ (some 49) _ = _
                    simp only [Act.put, ua, ub, uc, ue, uf]; rfl
                  refine pU (i := 10) (N := some 50) (bA 11 2047) (um HT_.out (by kernel_rfl)) rfl ?_
                  refine done_ (done_of HT_.out (by kernel_rfl)) ?_
                  try go_wp2
                  go_roundg k1
                  case measure => have := HK1.out; omega
                  case rel => exact ⟨(x10_1), (ji8), rfl, (by first | rfl | (simp; done) | (simp only [← hji8] <;> (first | rfl | simp)) | (simp [*]; done)), H', ⟨by have := HK1.out; omega⟩, ⟨HO_0.out⟩, ⟨HK.out⟩, ⟨HB.out⟩⟩
             · rw [if_neg c12] at H; exact absurd H (by simp)
           · rw [if_neg c11] at H; exact absurd H (by simp)
         · rw [if_neg c10] at H; exact absurd H (by simp)
       · rw [if_neg c9] at H; exact absurd H (by simp)
     · rw [if_neg c7] at H; have c7b0 : decide (x10_1 < x11_1) = false := decide_eq_false c7; clear c7; have H' := za H; clear H
       go_wp2
       go_loopg [13] k1 (fun kq v13 w' => ∃ (x0_2 : List (S33)) (x13_2 : Int), v13 = .int .i64 x13_2 ∧ Aside0 (api_Entry_123.l1 kq x0_2 x10_1 x13_2 = some r) ∧ Aside0 (kq ≤ k1) ∧ Aside0 (Kd.RC k33 33 w' w0.heap.size (fun k_ => (P0_ k_ ∨ w.heap.size ≤ k_)) u9000_ x0_2) ∧ Aside0 (Kept w w' (fun k_ => P0_ k_)) ∧ Aside0 (Below w0.heap.size w0 w'))
       case atStart => exact ⟨(l0), (a1), rfl, H', ⟨ut _⟩, ⟨HO_0.out⟩, ⟨HK.out⟩, ⟨HB.out⟩⟩
       case round =>
        clear H'
        try clear c6
        try clear c6b0
        try clear c6b1
        try clear c7
        try clear c7b0
        obtain ⟨x0_2, x13_2, rfl, HA, HK2, HO_0, HK, HB⟩ := hrel
        cases gk with
        | zero => exact absurd HA.out (by simp [api_Entry_123.l1])
        | succ k2 =>
         have H := HA.out; clear HA; simp only [api_Entry_123.l1] at H
         by_cases c21 : x13_2 < (wrap64 (x10_1 - 1))
         · rw [if_pos c21] at H; have c21b0 : decide (x13_2 < (wrap64 (x10_1 - 1))) = true := decide_eq_true c21; clear c21; obtain ⟨ji22, hji22⟩ : ∃ j_ : Int, (wrap64 (x13_2 + 1)) = j_ := ⟨_, rfl⟩; (replace H : (if 0 ≤ (ji22) then (if (ji22) < (x0_2.length : Int) then (if 0 ≤ x13_2 then (if x13_2 < (x0_2.length : Int) then (api_Entry_123.l1 k2 ((x0_2.set (x13_2 : Int).toNat (⟨(a0a x0_2 (ji22)).f0, (a0a x0_2 (ji22)).f1⟩ : S33)).set ((ji22) : Int).toNat (⟨(a0a x0_2 x13_2).f0, (a0a x0_2 x13_2).f1⟩ : S33)) x10_1 ji22) else (none)) else (none)) else (none)) else (none)) = some r := by first | (rw [hji22] at H; exact H) | (simp only [hji22] at H ⊢; exact H)); have hji22w : (IntKind.i64.wrap (x13_2 + 1)) = ji22 := (ue _).trans hji22
           by_cases c23 : 0 ≤ (ji22)
           · rw [if_pos c23] at H; have c23b0 : decide (0 ≤ (ji22)) = true := decide_eq_true c23; clear c23
             by_cases c24 : (ji22) < (x0_2.length : Int)
             · rw [if_pos c24] at H; have c24b0 : decide ((ji22) < (x0_2.length : Int)) = true := decide_eq_true c24; clear c24
               by_cases c25 : 0 ≤ x13_2
               · rw [if_pos c25] at H; have c25b0 : decide (0 ≤ x13_2) = true := decide_eq_true c25; clear c25
                 by_cases c26 : x13_2 < (x0_2.length : Int)
                 · rw [if_pos c26] at H; have c26b0 : decide (x13_2 < (x0_2.length : Int)) = true := decide_eq_true c26; clear c26; obtain ⟨y106, hy106⟩ : ∃ y_ : List (S33), y_ = (x0_2.set (x13_2 : Int).toNat (⟨(a0a x0_2 (ji22)).f0, (a0a x0_2 (ji22)).f1⟩ : S33)) := ⟨_, rfl⟩; (replace H : (api_Entry_123.l1 k2 (y106.set ((ji22) : Int).toNat (⟨(a0a x0_2 x13_2).f0, (a0a x0_2 x13_2).f1⟩ : S33)) x10_1 ji22) = some r := by first | (rw [hy106]; with_reducible exact H) | (have H2_ := (ui _ _).symm.trans H; rw [hy106]; with_reducible exact H2_) | (have H2_ := (ui _ _).symm.trans H; with_reducible exact H2_) | with_reducible exact H | (rw [hy106]; exact H) | exact H); have Ny106 := za hy106; clear hy106; obtain ⟨y107, hy107⟩ : ∃ y_ : List (S33), y_ = (y106.set ((ji22) : Int).toNat (⟨(a0a x0_2 x13_2).f0, (a0a x0_2 x13_2).f1⟩ : S33)) := ⟨_, rfl⟩; (replace H : (api_Entry_123.l1 k2 y107 x10_1 ji22) = some r := by first | (rw [hy107]; with_reducible exact H) | (have H2_ := (ui _ _).symm.trans H; rw [hy107]; with_reducible exact H2_) | (have H2_ := (ui _ _).symm.trans H; with_reducible exact H2_) | with_reducible exact H | (rw [hy107]; exact H) | exact H); have Ny107 := za hy107; clear hy107
                   as_aux_lemma =>
                    have H' := za H; clear H
                    try go_wp2
                    have n0_ := za (xb HO_0.out); have n1_ := za (Kept.drew HK.out); have n2_ := za (us HB.out); clear HO_0 HK HB; have HO_0 := n0_; have HK := n1_; have HB := n2_; clear n0_ n1_ n2_; obtain ⟨Ao30, co30, eo30⟩ := vw HO_0.out; (first | subst eo30 | (injection eo30 with f1_ f2_ f3_; have f4_ := f1_.symm; have f5_ := f3_.symm; clear f1_ f2_ f3_; subst f4_; subst f5_)); have p104 : 0 ≤ ((ji22) : Int) := ud (by assumption); have q104 : (ji22) < (x0_2.length : Int) := ud (by assumption); obtain ⟨ad104, e104, hx104_0, hx104_1⟩ := a0e (uz HO_0.out).2.2 (ji22) p104 q104
                    cases e104
                    replace p104 := eq_true p104; replace q104 := eq_true q104; have p105 : 0 ≤ (x13_2 : Int) := ud (by assumption); have q105 : x13_2 < (x0_2.length : Int) := ud (by assumption); obtain ⟨ad105, e105, hx105_0, hx105_1⟩ := a0e (uz HO_0.out).2.2 x13_2 p105 q105; obtain rfl : ad104 = ad105 := (by injection e105); replace p105 := eq_true p105; replace q105 := eq_true q105; have p27 : 0 ≤ (x13_2 : Int) := ud (by assumption); have q27 : (x13_2 : Int) < ((x0_2.length : Int) : Int) := ud (by assumption); obtain ⟨go27, co27, eo27, gb27, gl27, cl27, HG27⟩ := Kd.RC_form HO_0.out (by omega); (first | cases eo27 | (injection eo27 with ea_ en_ ec_; (first | subst ea_ | (injection ea_ with ea_; subst ea_)); subst ec_; clear en_)); have GB27 := za gb27; have GG27 := za HG27; clear gb27 gl27 HG27; have HMgo27 := za (show (P0_ go27 ∨ w.heap.size ≤ go27) from (HO_0.out.1 _ rfl)); (first | simp only [add_plain] at hx104_0 | skip); (first | simp only [add_plain] at hx104_1 | skip); (first | simp only [add_plain] at hx105_0 | skip); (first | simp only [add_plain] at hx105_1 | skip); obtain ⟨ce27, hcl27, hM27, hcc27, hfr27⟩ := Kd.RC_elem HO_0.out z33 (x13_2 : Int) p27 q27; obtain rfl := a1m hM27; have hx27_0 : World.cell? _ ⟨go27, (x13_2 : Int).toNat * 2, none⟩ = some (.int .u64 ((a0a x0_2 x13_2).f0)) := hcc27 0 _ rfl; have hx27_1 : World.cell? _ ⟨go27, (x13_2 : Int).toNat * 2 + 1, none⟩ = some (.int .i64 ((a0a x0_2 x13_2).f1)) := hcc27 1 _ rfl; have hf27_0 : World.frozen? _ ⟨go27, (x13_2 : Int).toNat * 2, none⟩ = false := hfr27 0; have hf27_1 : World.frozen? _ ⟨go27, (x13_2 : Int).toNat * 2 + 1, none⟩ = false := hfr27 1; clear hcl27 hcc27 hfr27 hM27; replace p27 := eq_true p27; replace q27 := eq_true q27; obtain ⟨ce31, hcl31, hM31, hcc31, hfr31⟩ := Kd.RC_elem HO_0.out z33 (x13_2 : Int) (ud (by assumption)) (by have h_ : (x13_2 : Int) < ((x0_2.length : Int) : Int) := ud (by assumption); first | exact h_ | (have e_ := (uz HO_0.out).1; omega) | simpa using h_); obtain rfl := a1m hM31; have HP31 := (Kd.RC_seg HO_0.out (x13_2 : Int) (ud (by assumption)) (by have h_ : (x13_2 : Int) < ((x0_2.length : Int) : Int) := ud (by assumption); first | exact h_ | (have e_ := (uz HO_0.out).1; omega) | simpa using h_) (seg := [.int .u64 ((a0a x0_2 (ji22)).f0), .int .i64 ((a0a x0_2 (ji22)).f1)]) (j := 0) hcl31 hcc31 (show 2 ≤ 2 from by decide) (x' := (⟨(a0a x0_2 (ji22)).f0, (a0a x0_2 (ji22)).f1⟩ : S33)) (a0v _ _ _ (⟨(a0a x0_2 (ji22)).f0, (a0a x0_2 (ji22)).f1⟩ : S33) ) (fun _ hk => hk)).1; rw [← Ny106.out] at HP31; have HQ31 := za HP31; clear hcl31 hcc31 hfr31 hM31 HP31; have p28 : 0 ≤ ((ji22) : Int) := ud (by assumption); have q28 : ((ji22) : Int) < ((x0_2.length : Int) : Int) := ud (by assumption); obtain ⟨ce28, hcl28, hM28, hcc28, hfr28⟩ := Kd.RC_elem HQ31.out z33 ((ji22) : Int) p28 q28; obtain rfl := a1m hM28; have hx28_0 : World.cell? _ ⟨go27, ((ji22) : Int).toNat * 2, none⟩ = some (.int .u64 ((a0a y106 (ji22)).f0)) := hcc28 0 _ rfl; have hx28_1 : World.cell? _ ⟨go27, ((ji22) : Int).toNat * 2 + 1, none⟩ = some (.int .i64 ((a0a y106 (ji22)).f1)) := hcc28 1 _ rfl; have hf28_0 : World.frozen? _ ⟨go27, ((ji22) : Int).toNat * 2, none⟩ = false := hfr28 0; have hf28_1 : World.frozen? _ ⟨go27, ((ji22) : Int).toNat * 2 + 1, none⟩ = false := hfr28 1; clear hcl28 hcc28 hfr28 hM28; replace p28 := eq_true p28; replace q28 := eq_true q28; obtain ⟨ce32, hcl32, hM32, hcc32, hfr32⟩ := Kd.RC_elem HQ31.out z33 ((ji22) : Int) (ud (by assumption)) (by have h_ : ((ji22) : Int) < ((x0_2.length : Int) : Int) := ud (by assumption); first | exact h_ | (have e_ := (uz HO_0.out).1; omega) | simpa using h_); obtain rfl := a1m hM32; have HP32 := (Kd.RC_seg HQ31.out ((ji22) : Int) (ud (by assumption)) (by have h_ : ((ji22) : Int) < ((x0_2.length : Int) : Int) := ud (by assumption); first | exact h_ | (have e_ := (uz HO_0.out).1; omega) | simpa using h_) (seg := [.int .u64 ((a0a x0_2 x13_2).f0), .int .i64 ((a0a x0_2 x13_2).f1)]) (j := 0) hcl32 hcc32 (show 2 ≤ 2 from by decide) (x' := (⟨(a0a x0_2 x13_2).f0, (a0a x0_2 x13_2).f1⟩ : S33)) (a0v _ _ _ (⟨(a0a x0_2 x13_2).f0, (a0a x0_2 x13_2).f1⟩ : S33) ) (fun _ hk => hk)).1; rw [← Ny107.out] at HP32; have HQ32 := za HP32; clear hcl32 hcc32 hfr32 hM32 HP32; refine start_ (n := 18) (S := fun w' => w'.cell? (⟨go27, (((ji22)).toNat * 2), none⟩ : Addr) = some (.int .u64 ((a0a x0_2 (ji22)).f0)) ∧ w'.cell? ⟨(⟨go27, (((ji22)).toNat * 2), none⟩ : Addr).block, (⟨go27, (((ji22)).toNat * 2), none⟩ : Addr).off + 1, none⟩ = some (.int .i64 ((a0a x0_2 (ji22)).f1)) ∧ w'.cell? ⟨go27, ((x13_2).toNat * 2), none⟩ = some (.int .u64 ((a0a x0_2 x13_2).f0)) ∧ w'.cell? ⟨go27, ((x13_2).toNat * 2) + 1, none⟩ = some (.int .i64 ((a0a x0_2 x13_2).f1))) (ds := [15, 17]) #[xX, xX, xX, xX, xX, xX, xX, xX, xX, xX, xX, xX, xX, xX, xX, xX, xX, xX] (by kernel_rfl) rfl rfl ⟨hx104_0, hx104_1, hx105_0, hx105_1⟩ (fun hHeld => ?_); refine with_tabW api_Entry_123.tab11 api_Entry_123.bits11 (fun HT_ HW_ => ?_); generalize wr.drew = w29 at HO_0 HK HB GG27 HQ31 HQ32 hf27_0 hf27_1 hf28_0 hf28_1 hx104_0 hx104_1 hx105_0 hx105_1 hx27_0 hx27_1 hx28_0 hx28_1 hHeld ⊢; have hz28_0 : World.frozen? w29 ⟨go27, ((ji22) : Int).toNat * 2, none⟩ = false := peel_f hf28_0; have hz28_1 : World.frozen? w29 ⟨go27, ((ji22) : Int).toNat * 2 + 1, none⟩ = false := peel_f hf28_1; have hy28_0 : World.cell? (World.setCell w29 ⟨go27, (x13_2 : Int).toNat * 2, none⟩ (.int .u64 ((a0a x0_2 (ji22)).f0))) ⟨go27, ((ji22) : Int).toNat * 2, none⟩ = some (.int .u64 ((a0a y106 (ji22)).f0)) := peel_c0 hx28_0 (by show (x13_2 : Int).toNat * 2 + 1 ≠ _; omega); have hy28_1 : World.cell? ((World.setCell w29 ⟨go27, (x13_2 : Int).toNat * 2, none⟩ (.int .u64 ((a0a x0_2 (ji22)).f0))).setCell ⟨go27, (x13_2 : Int).toNat * 2 + 1, none⟩ (.int .i64 ((a0a x0_2 (ji22)).f1))) ⟨go27, ((ji22) : Int).toNat * 2 + 1, none⟩ = some (.int .i64 ((a0a y106 (ji22)).f1)) := hx28_1
                    refine pU (i := 0) (N := some 61) (bA 18 1) (um HT_.out (by kernel_rfl)) rfl ?_
                    refine pU (i := 1) (N := some 62) (bA 18 3) (um HT_.out (by kernel_rfl)) rfl ?_
                    refine pU (i := 2) (N := some 63) (bA 18 7) (um HT_.out (by kernel_rfl)) rfl ?_
                    refine pU (i := 3) (N := some 64) (bA 18 15) (um HT_.out (by kernel_rfl)) rfl ?_
                    refine pU (i := 4) (N := some 65) (bA 18 31) (um HT_.out (by kernel_rfl)) rfl ?_
                    refine pU (i := 5) (N := some 66) (bA 18 63) (um HT_.out (by kernel_rfl)) rfl ?_
                    refine pU (i := 6) (N := some 67) (bA 18 127) (um HT_.out (by kernel_rfl)) rfl ?_
                    refine pU (i := 7) (N := some 68) (bA 18 255) (um HT_.out (by kernel_rfl)) rfl ?_
                    refine pU (i := 8) (N := some 69) (bA 18 511) (um HT_.out (by kernel_rfl)) rfl ?_
                    refine pU (i := 10) (N := some 71) (bA 18 1535) (um HT_.out (by kernel_rfl)) rfl ?_
                    refine pU (i := 11) (N := some 72) (bA 18 3583) (um HT_.out (by kernel_rfl)) rfl ?_
                    refine pU (i := 12) (N := some 73) (bA 18 7679) (um HT_.out (by kernel_rfl)) rfl ?_
                    refine tU (i := 9) (N := some 70) (bA 18 8191) (vp HT_.out HW_.out (by kernel_rfl)) rfl hHeld (by (constructor; (rintro w' ⟨s0, s1, s2, s3⟩; go_simp; (with_reducible rfl)); (simp only [Act.put, ua, ub, uc, ue, uf]; rfl))) ?_
                    refine tU (i := 13) (N := some 74) (bA 18 16383) (vp HT_.out HW_.out (by kernel_rfl)) rfl hHeld (by (constructor; (rintro w' ⟨s0, s1, s2, s3⟩; go_simp; (with_reducible rfl)); (simp only [Act.put, ua, ub, uc, ue, uf]; rfl))) ?_
                    refine pU (i := 14) (N := some 75) (bA 18 32767) (um HT_.out (by kernel_rfl)) rfl ?_
                    refine last_ (i := 15) (N := none) (bA 18 65535) rfl rfl (one_of HT_.out (by kernel_rfl)) (by decide) (fun K hK => ?_); refine skip_ (w1 := ?_) (by rfl) rfl ?_ ?_; rotate_left
                    · go_simp; rfl
                    refine hK.out _ _ ?_; clear hK K; refine pU (i := 16) (N := some 76) (bA 18 131071) (um HT_.out (by kernel_rfl)) rfl ?_
                    refine last_ (i := 17) (N := none) (bA 18 262143) rfl rfl (one_of HT_.out (by kernel_rfl)) (by decide) (fun K hK => ?_); refine skip_ (w1 := ?_) (by rfl) rfl ?_ ?_; rotate_left
                    · go_simp; rfl
                    refine hK.out _ _ ?_; clear hK K; refine done_ (done_of HT_.out (by kernel_rfl)) ?_
                    try go_wp2
                    go_roundg k2
                    case measure => have := HK1.out; have := HK2.out; omega
                    case rel => exact ⟨(y107), (ji22), (by first | rfl | (simp; done) | (simp only [← hji22] <;> (first | rfl | simp)) | (simp [*]; done)), H', ⟨by have := HK1.out; have := HK2.out; omega⟩, ⟨by (with_reducible repeat (first | apply Kd.RC_alloc | apply Kd.RC_drewN | apply xb)); exact HQ32.out⟩, ⟨by repeat (first | (with_reducible first | exact HK.out | apply Kept.alloc | apply Kept.drewN | apply Kept.drew | refine xc ?_ HMgo27.out _ | refine xc ?_ HMgo27.out _ | refine xc ?_ HMgo27.out _ | refine xc ?_ HMgo27.out _) | exact HK.out)⟩, ⟨by repeat (first | (with_reducible first | exact HB.out | apply uv | apply uw | apply us | refine vn ?_ GB27.out | refine vn ?_ GB27.out | refine vn ?_ GB27.out | refine vn ?_ GB27.out) | exact HB.out)⟩⟩
                 · rw [if_neg c26] at H; exact absurd H (by simp)
               · rw [if_neg c25] at H; exact absurd H (by simp)
             · rw [if_neg c24] at H; exact absurd H (by simp)
           · rw [if_neg c23] at H; exact absurd H (by simp)
         · rw [if_neg c21] at H; have c21b0 : decide (x13_2 < (wrap64 (x10_1 - 1))) = false := decide_eq_false c21; clear c21
           as_aux_lemma =>
            obtain rfl := Option.some.inj H
            go_wp2
            first | go_end0 | ((try simp only [Exit.inBlock, Exit.then]); refine bodyPost_ret (results_none rfl _ _ _) rfl ?_)
            exact ⟨rfl, HO_0.out, HB.out, HK.out⟩
 · rw [if_neg c6] at H; have c6b0 : ((wrap64 (a2 - a1)) == 1) = false := beq_eq_false_iff_ne.mpr c6; have c6b1 : ((wrap64 (a2 - a1)) != 1) = true := bne_iff_ne.mpr c6
   by_cases c33 : (wrap64 (a3 - a2)) = 1
   · rw [if_pos c33] at H; have c33b0 : ((wrap64 (a3 - a2)) == 1) = true := beq_iff_eq.mpr c33; have c33b1 : ((wrap64 (a3 - a2)) != 1) = false := bne_eq_false_iff_eq.mpr c33; clear c33; have H' := za H; clear H; go_enter Tryz.func123, Tryz.ntmps123
     go_wp2
     go_loopg [14, 15] k (fun kq v14 v15 w' => ∃ (x14_1 : Int) (x15_1 : Int), v14 = .int .i64 x14_1 ∧ v15 = .int .i64 x15_1 ∧ Aside0 (api_Entry_123.l2 kq l0 a2 x14_1 x15_1 = some r) ∧ Aside0 (kq ≤ k) ∧ Aside0 (Kd.RC k33 33 w' w0.heap.size (fun k_ => (P0_ k_ ∨ w.heap.size ≤ k_)) u9000_ l0) ∧ Aside0 (Kept w w' (fun k_ => P0_ k_)) ∧ Aside0 (Below w0.heap.size w0 w'))
     case atStart => exact ⟨(a1), (a2), rfl, rfl, H', ⟨ut _⟩, ⟨HO0.out⟩, ⟨HK.out⟩, ⟨HB.out⟩⟩
     case round =>
      clear H'
      try clear c6
      try clear c6b0
      try clear c6b1
      try clear c33
      try clear c33b0
      try clear c33b1
      obtain ⟨x14_1, x15_1, rfl, rfl, HA, HK1, HO_0, HK, HB⟩ := hrel
      cases gk with
      | zero => exact absurd HA.out (by simp [api_Entry_123.l2])
      | succ k1 =>
       have H := HA.out; clear HA; simp only [api_Entry_123.l2] at H
       by_cases c34 : x14_1 < x15_1
       · rw [if_pos c34] at H; have c34b0 : decide (x14_1 < x15_1) = true := decide_eq_true c34; clear c34
         by_cases c35 : 0 ≤ a2
         · rw [if_pos c35] at H; have c35b0 : decide (0 ≤ a2) = true := decide_eq_true c35; clear c35
           by_cases c36 : a2 < (l0.length : Int)
           · rw [if_pos c36] at H; have c36b0 : decide (a2 < (l0.length : Int)) = true := decide_eq_true c36; clear c36; obtain ⟨ji37, hji37⟩ : ∃ j_ : Int, (wrap64 ((IntKind.u64.wrap (wrap64 (x14_1 + x15_1))) / 2)) = j_ := ⟨_, rfl⟩; (replace H : (if 0 ≤ (ji37) then (if (ji37) < (l0.length : Int) then ((entry_Sort_1.f k1 ((a0a l0 a2).f0) ((a0a l0 a2).f1) ((a0a l0 (ji37)).f0) ((a0a l0 (ji37)).f1)).bind fun t110 => (if t110 < 0 then (api_Entry_123.l2 k1 l0 a2 x14_1 ji37) else (api_Entry_123.l2 k1 l0 a2 (wrap64 ((ji37) + 1)) x15_1))) else (none)) else (none)) = some r := by first | (rw [hji37] at H; exact H) | (simp only [hji37] at H ⊢; exact H)); have hji37w : (IntKind.i64.wrap ((IntKind.u64.wrap (wrap64 (x14_1 + x15_1))) / 2)) = ji37 := (ue _).trans hji37
             by_cases c38 : 0 ≤ (ji37)
             · rw [if_pos c38] at H; have c38b0 : decide (0 ≤ (ji37)) = true := decide_eq_true c38; clear c38
               by_cases c39 : (ji37) < (l0.length : Int)
               · rw [if_pos c39] at H; have c39b0 : decide ((ji37) < (l0.length : Int)) = true := decide_eq_true c39; clear c39; replace H := Option.bind_eq_some_iff.mp H; obtain ⟨t110, A400, H⟩ := H; replace H : (if t110 < 0 then (api_Entry_123.l2 k1 l0 a2 x14_1 ji37) else (api_Entry_123.l2 k1 l0 a2 (wrap64 ((ji37) + 1)) x15_1)) = some r := H; have A40 := za A400; clear A400
                 by_cases c41 : t110 < 0
                 · rw [if_pos c41] at H; have c41b0 : decide (t110 < 0) = true := decide_eq_true c41; clear c41
                   as_aux_lemma =>
                    have H' := za H; clear H
                    try go_wp2
                    have n0_ := za (xb HO_0.out); have n1_ := za (Kept.drew HK.out); have n2_ := za (us HB.out); clear HO_0 HK HB; have HO_0 := n0_; have HK := n1_; have HB := n2_; clear n0_ n1_ n2_; obtain ⟨Ao43, co43, eo43⟩ := vw HO_0.out; (first | subst eo43 | (injection eo43 with f1_ f2_ f3_; have f4_ := f1_.symm; have f5_ := f3_.symm; clear f1_ f2_ f3_; subst f4_; subst f5_)); have p108 : 0 ≤ (a2 : Int) := ud (by assumption); have q108 : a2 < (l0.length : Int) := ud (by assumption); obtain ⟨ad108, e108, hx108_0, hx108_1⟩ := a0e (uz HO_0.out).2.2 a2 p108 q108
                    cases e108
                    replace p108 := eq_true p108; replace q108 := eq_true q108; have p109 : 0 ≤ ((ji37) : Int) := ud (by assumption); have q109 : (ji37) < (l0.length : Int) := ud (by assumption); obtain ⟨ad109, e109, hx109_0, hx109_1⟩ := a0e (uz HO_0.out).2.2 (ji37) p109 q109; obtain rfl : ad108 = ad109 := (by injection e109); replace p109 := eq_true p109; replace q109 := eq_true q109; refine start_ (n := 12) (S := fun w' => w'.cell? (ad108.add ((a2).toNat * 2)) = some (.int .u64 ((a0a l0 a2).f0)) ∧ w'.cell? ⟨(ad108.add ((a2).toNat * 2)).block, (ad108.add ((a2).toNat * 2)).off + 1, none⟩ = some (.int .i64 ((a0a l0 a2).f1)) ∧ w'.cell? (ad108.add (((ji37)).toNat * 2)) = some (.int .u64 ((a0a l0 (ji37)).f0)) ∧ w'.cell? ⟨(ad108.add (((ji37)).toNat * 2)).block, (ad108.add (((ji37)).toNat * 2)).off + 1, none⟩ = some (.int .i64 ((a0a l0 (ji37)).f1))) (ds := []) #[xX, xX, xX, xX, xX, xX, xX, xX, xX, xX, xX, xX] (by kernel_rfl) rfl rfl ⟨hx108_0, hx108_1, hx109_0, hx109_1⟩ (fun hHeld => ?_); refine with_tabW api_Entry_123.tab17 api_Entry_123.bits17 (fun HT_ HW_ => ?_); generalize wr.drew = w42 at HO_0 HK HB hx108_0 hx108_1 hx109_0 hx109_1 hHeld ⊢; refine pU (i := 0) (N := some 92) (bA 12 1) (um HT_.out (by kernel_rfl)) rfl ?_
                    refine pU (i := 1) (N := some 93) (bA 12 3) (um HT_.out (by kernel_rfl)) rfl ?_
                    refine pU (i := 2) (N := some 94) (bA 12 7) (um HT_.out (by kernel_rfl)) rfl ?_
                    refine pU (i := 3) (N := some 95) (bA 12 15) (um HT_.out (by kernel_rfl)) rfl ?_
                    refine pU (i := 5) (N := some 97) (bA 12 47) (um HT_.out (by kernel_rfl)) rfl ?_
                    refine pU (i := 6) (N := some 98) (bA 12 111) (um HT_.out (by kernel_rfl)) rfl ?_
                    refine pU (i := 7) (N := some 99) (bA 12 239) (um HT_.out (by kernel_rfl)) rfl ?_
                    refine tU (i := 4) (N := some 96) (bA 12 255) (vp HT_.out HW_.out (by kernel_rfl)) rfl hHeld (by (constructor; (rintro w' ⟨s0, s1, s2, s3⟩; go_simp; (with_reducible rfl)); (simp only [Act.put, ua, ub, uc, ue, uf]; rfl))) ?_
                    refine tU (i := 8) (N := some 100) (bA 12 511) (vp HT_.out HW_.out (by kernel_rfl)) rfl hHeld (by (constructor; (rintro w' ⟨s0, s1, s2, s3⟩; go_simp; (with_reducible rfl)); (simp only [Act.put, ua, ub, uc, ue, uf]; rfl))) ?_
                    refine one_ (i := 9) (N := some 101) (bA 12 1023) rfl rfl (one_of HT_.out (by kernel_rfl)) (by decide) (fun K hK => ?_); refine goesV_ Tryz.func85 (by kernel_rfl) rfl #[.agg #[.int .u64 ((a0a l0 a2).f0), .int .i64 ((a0a l0 a2).f1)], .agg #[.int .u64 ((a0a l0 (ji37)).f0), .int .i64 ((a0a l0 (ji37)).f1)]] (by rfl) rfl rfl (by rfl) (by (try simp only [ug, ul, uo]); first | done | (simp only [hji37]; rfl) | rfl | (simp only [uk, uj]; rfl)) ?_; (with_reducible refine (entry_Sort_1.calls k1 ((a0a l0 a2).f0) ((a0a l0 a2).f1) ((a0a l0 (ji37)).f0) ((a0a l0 (ji37)).f1) t110 _ A40.out).mono ?_); rintro e w44 ⟨rfl, hb⟩; have HS0_ := (hb.cell (World.block_lt_of_cell? _ _ (hHeld.1))).trans (hHeld.1); have HS1_ := (hb.cell (World.block_lt_of_cell? _ _ (hHeld.2.1))).trans (hHeld.2.1); have HS2_ := (hb.cell (World.block_lt_of_cell? _ _ (hHeld.2.2.1))).trans (hHeld.2.2.1); have HS3_ := (hb.cell (World.block_lt_of_cell? _ _ (hHeld.2.2.2))).trans (hHeld.2.2.2); refine ⟨_, rfl, ?_⟩; have n0_ := za (Kd.RC_below HO_0.out hb); have n1_ := za (Kept.below (S := (fun k_ => P0_ k_)) HK.out hb); have n2_ := za (ur HB.out hb); clear HO_0 HK HB; have HO_0 := n0_; have HK := n1_; have HB := n2_; clear n0_ n1_ n2_; (try clear hb); (try clear hk); (try clear hi); refine hK.out _ _ ⟨HS0_, HS1_, HS2_, HS3_⟩ (fun hHeld => ?_); clear hK K; refine vv (a' := ?_) ?_ ?_; rotate_left
                    · show Act.put _ (some 101) _ = _
                      simp only [Act.put, ua, ub, uc, ue, uf]; rfl
                    refine pU (i := 10) (N := some 102) (bA 12 2047) (um HT_.out (by kernel_rfl)) rfl ?_
                    refine pU (i := 11) (N := some 103) (bA 12 4095) (um HT_.out (by kernel_rfl)) rfl ?_
                    refine done_ (done_of HT_.out (by kernel_rfl)) ?_
                    try go_wp2
                    go_roundg k1
                    case measure => have := HK1.out; omega
                    case rel => exact ⟨(x14_1), (ji37), rfl, (by first | rfl | (simp; done) | (simp only [← hji37] <;> (first | rfl | simp)) | (simp [*]; done)), H', ⟨by have := HK1.out; omega⟩, ⟨HO_0.out⟩, ⟨HK.out⟩, ⟨HB.out⟩⟩
                 · rw [if_neg c41] at H; have c41b0 : decide (t110 < 0) = false := decide_eq_false c41; clear c41
                   as_aux_lemma =>
                    have H' := za H; clear H
                    try go_wp2
                    have n0_ := za (xb HO_0.out); have n1_ := za (Kept.drew HK.out); have n2_ := za (us HB.out); clear HO_0 HK HB; have HO_0 := n0_; have HK := n1_; have HB := n2_; clear n0_ n1_ n2_; obtain ⟨Ao46, co46, eo46⟩ := vw HO_0.out; (first | subst eo46 | (injection eo46 with f1_ f2_ f3_; have f4_ := f1_.symm; have f5_ := f3_.symm; clear f1_ f2_ f3_; subst f4_; subst f5_)); have p108 : 0 ≤ (a2 : Int) := ud (by assumption); have q108 : a2 < (l0.length : Int) := ud (by assumption); obtain ⟨ad108, e108, hx108_0, hx108_1⟩ := a0e (uz HO_0.out).2.2 a2 p108 q108
                    cases e108
                    replace p108 := eq_true p108; replace q108 := eq_true q108; have p109 : 0 ≤ ((ji37) : Int) := ud (by assumption); have q109 : (ji37) < (l0.length : Int) := ud (by assumption); obtain ⟨ad109, e109, hx109_0, hx109_1⟩ := a0e (uz HO_0.out).2.2 (ji37) p109 q109; obtain rfl : ad108 = ad109 := (by injection e109); replace p109 := eq_true p109; replace q109 := eq_true q109; refine start_ (n := 12) (S := fun w' => w'.cell? (ad108.add ((a2).toNat * 2)) = some (.int .u64 ((a0a l0 a2).f0)) ∧ w'.cell? ⟨(ad108.add ((a2).toNat * 2)).block, (ad108.add ((a2).toNat * 2)).off + 1, none⟩ = some (.int .i64 ((a0a l0 a2).f1)) ∧ w'.cell? (ad108.add (((ji37)).toNat * 2)) = some (.int .u64 ((a0a l0 (ji37)).f0)) ∧ w'.cell? ⟨(ad108.add (((ji37)).toNat * 2)).block, (ad108.add (((ji37)).toNat * 2)).off + 1, none⟩ = some (.int .i64 ((a0a l0 (ji37)).f1))) (ds := []) #[xX, xX, xX, xX, xX, xX, xX, xX, xX, xX, xX, xX] (by kernel_rfl) rfl rfl ⟨hx108_0, hx108_1, hx109_0, hx109_1⟩ (fun hHeld => ?_); refine with_tabW api_Entry_123.tab17 api_Entry_123.bits17 (fun HT_ HW_ => ?_); generalize wr.drew = w45 at HO_0 HK HB hx108_0 hx108_1 hx109_0 hx109_1 hHeld ⊢; refine pU (i := 0) (N := some 92) (bA 12 1) (um HT_.out (by kernel_rfl)) rfl ?_
                    refine pU (i := 1) (N := some 93) (bA 12 3) (um HT_.out (by kernel_rfl)) rfl ?_
                    refine pU (i := 2) (N := some 94) (bA 12 7) (um HT_.out (by kernel_rfl)) rfl ?_
                    refine pU (i := 3) (N := some 95) (bA 12 15) (um HT_.out (by kernel_rfl)) rfl ?_
                    refine pU (i := 5) (N := some 97) (bA 12 47) (um HT_.out (by kernel_rfl)) rfl ?_
                    refine pU (i := 6) (N := some 98) (bA 12 111) (um HT_.out (by kernel_rfl)) rfl ?_
                    refine pU (i := 7) (N := some 99) (bA 12 239) (um HT_.out (by kernel_rfl)) rfl ?_
                    refine tU (i := 4) (N := some 96) (bA 12 255) (vp HT_.out HW_.out (by kernel_rfl)) rfl hHeld (by (constructor; (rintro w' ⟨s0, s1, s2, s3⟩; go_simp; (with_reducible rfl)); (simp only [Act.put, ua, ub, uc, ue, uf]; rfl))) ?_
                    refine tU (i := 8) (N := some 100) (bA 12 511) (vp HT_.out HW_.out (by kernel_rfl)) rfl hHeld (by (constructor; (rintro w' ⟨s0, s1, s2, s3⟩; go_simp; (with_reducible rfl)); (simp only [Act.put, ua, ub, uc, ue, uf]; rfl))) ?_
                    refine one_ (i := 9) (N := some 101) (bA 12 1023) rfl rfl (one_of HT_.out (by kernel_rfl)) (by decide) (fun K hK => ?_); refine goesV_ Tryz.func85 (by kernel_rfl) rfl #[.agg #[.int .u64 ((a0a l0 a2).f0), .int .i64 ((a0a l0 a2).f1)], .agg #[.int .u64 ((a0a l0 (ji37)).f0), .int .i64 ((a0a l0 (ji37)).f1)]] (by rfl) rfl rfl (by rfl) (by (try simp only [ug, ul, uo]); first | done | (simp only [hji37]; rfl) | rfl | (simp only [uk, uj]; rfl)) ?_; (with_reducible refine (entry_Sort_1.calls k1 ((a0a l0 a2).f0) ((a0a l0 a2).f1) ((a0a l0 (ji37)).f0) ((a0a l0 (ji37)).f1) t110 _ A40.out).mono ?_); rintro e w47 ⟨rfl, hb⟩; have HS0_ := (hb.cell (World.block_lt_of_cell? _ _ (hHeld.1))).trans (hHeld.1); have HS1_ := (hb.cell (World.block_lt_of_cell? _ _ (hHeld.2.1))).trans (hHeld.2.1); have HS2_ := (hb.cell (World.block_lt_of_cell? _ _ (hHeld.2.2.1))).trans (hHeld.2.2.1); have HS3_ := (hb.cell (World.block_lt_of_cell? _ _ (hHeld.2.2.2))).trans (hHeld.2.2.2); refine ⟨_, rfl, ?_⟩; have n0_ := za (Kd.RC_below HO_0.out hb); have n1_ := za (Kept.below (S := (fun k_ => P0_ k_)) HK.out hb); have n2_ := za (ur HB.out hb); clear HO_0 HK HB; have HO_0 := n0_; have HK := n1_; have HB := n2_; clear n0_ n1_ n2_; (try clear hb); (try clear hk); (try clear hi); refine hK.out _ _ ⟨HS0_, HS1_, HS2_, HS3_⟩ (fun hHeld => ?_); clear hK K; refine vv (a' := ?_) ?_ ?_; rotate_left
                    · show Act.put _ (some 101) _ = _
                      simp only [Act.put, ua, ub, uc, ue, uf]; rfl
                    refine pU (i := 10) (N := some 102) (bA 12 2047) (um HT_.out (by kernel_rfl)) rfl ?_
                    refine pU (i := 11) (N := some 103) (bA 12 4095) (um HT_.out (by kernel_rfl)) rfl ?_
                    refine done_ (done_of HT_.out (by kernel_rfl)) ?_
                    try go_wp2
                    go_roundg k1
                    case measure => have := HK1.out; omega
                    case rel => exact ⟨(wrap64 ((ji37) + 1)), (x15_1), (by first | rfl | (simp; done) | (simp only [← hji37] <;> (first | rfl | simp)) | (simp [*]; done)), rfl, H', ⟨by have := HK1.out; omega⟩, ⟨HO_0.out⟩, ⟨HK.out⟩, ⟨HB.out⟩⟩
               · rw [if_neg c39] at H; exact absurd H (by simp)
             · rw [if_neg c38] at H; exact absurd H (by simp)
           · rw [if_neg c36] at H; exact absurd H (by simp)
         · rw [if_neg c35] at H; exact absurd H (by simp)
       · rw [if_neg c34] at H; have c34b0 : decide (x14_1 < x15_1) = false := decide_eq_false c34; clear c34; have H' := za H; clear H
         go_wp2
         go_loopg [17] k1 (fun kq v17 w' => ∃ (x0_2 : List (S33)) (x17_2 : Int), v17 = .int .i64 x17_2 ∧ Aside0 (api_Entry_123.l3 kq x0_2 x14_1 x17_2 = some r) ∧ Aside0 (kq ≤ k1) ∧ Aside0 (Kd.RC k33 33 w' w0.heap.size (fun k_ => (P0_ k_ ∨ w.heap.size ≤ k_)) u9000_ x0_2) ∧ Aside0 (Kept w w' (fun k_ => P0_ k_)) ∧ Aside0 (Below w0.heap.size w0 w'))
         case atStart => exact ⟨(l0), (a2), rfl, H', ⟨ut _⟩, ⟨HO_0.out⟩, ⟨HK.out⟩, ⟨HB.out⟩⟩
         case round =>
          clear H'
          try clear c6
          try clear c6b0
          try clear c6b1
          try clear c33
          try clear c33b0
          try clear c33b1
          try clear c34
          try clear c34b0
          obtain ⟨x0_2, x17_2, rfl, HA, HK2, HO_0, HK, HB⟩ := hrel
          cases gk with
          | zero => exact absurd HA.out (by simp [api_Entry_123.l3])
          | succ k2 =>
           have H := HA.out; clear HA; simp only [api_Entry_123.l3] at H
           by_cases c48 : x17_2 > x14_1
           · rw [if_pos c48] at H; have c48b0 : decide (x14_1 < x17_2) = true := decide_eq_true c48; clear c48; obtain ⟨ji49, hji49⟩ : ∃ j_ : Int, (wrap64 (x17_2 - 1)) = j_ := ⟨_, rfl⟩; (replace H : (if 0 ≤ (ji49) then (if (ji49) < (x0_2.length : Int) then (if 0 ≤ x17_2 then (if x17_2 < (x0_2.length : Int) then (api_Entry_123.l3 k2 ((x0_2.set (x17_2 : Int).toNat (⟨(a0a x0_2 (ji49)).f0, (a0a x0_2 (ji49)).f1⟩ : S33)).set ((ji49) : Int).toNat (⟨(a0a x0_2 x17_2).f0, (a0a x0_2 x17_2).f1⟩ : S33)) x14_1 ji49) else (none)) else (none)) else (none)) else (none)) = some r := by first | (rw [hji49] at H; exact H) | (simp only [hji49] at H ⊢; exact H)); have hji49w : (IntKind.i64.wrap (x17_2 - 1)) = ji49 := (ue _).trans hji49
             by_cases c50 : 0 ≤ (ji49)
             · rw [if_pos c50] at H; have c50b0 : decide (0 ≤ (ji49)) = true := decide_eq_true c50; clear c50
               by_cases c51 : (ji49) < (x0_2.length : Int)
               · rw [if_pos c51] at H; have c51b0 : decide ((ji49) < (x0_2.length : Int)) = true := decide_eq_true c51; clear c51
                 by_cases c52 : 0 ≤ x17_2
                 · rw [if_pos c52] at H; have c52b0 : decide (0 ≤ x17_2) = true := decide_eq_true c52; clear c52
                   by_cases c53 : x17_2 < (x0_2.length : Int)
                   · rw [if_pos c53] at H; have c53b0 : decide (x17_2 < (x0_2.length : Int)) = true := decide_eq_true c53; clear c53; obtain ⟨y113, hy113⟩ : ∃ y_ : List (S33), y_ = (x0_2.set (x17_2 : Int).toNat (⟨(a0a x0_2 (ji49)).f0, (a0a x0_2 (ji49)).f1⟩ : S33)) := ⟨_, rfl⟩; (replace H : (api_Entry_123.l3 k2 (y113.set ((ji49) : Int).toNat (⟨(a0a x0_2 x17_2).f0, (a0a x0_2 x17_2).f1⟩ : S33)) x14_1 ji49) = some r := by first | (rw [hy113]; with_reducible exact H) | (have H2_ := (ui _ _).symm.trans H; rw [hy113]; with_reducible exact H2_) | (have H2_ := (ui _ _).symm.trans H; with_reducible exact H2_) | with_reducible exact H | (rw [hy113]; exact H) | exact H); have Ny113 := za hy113; clear hy113; obtain ⟨y114, hy114⟩ : ∃ y_ : List (S33), y_ = (y113.set ((ji49) : Int).toNat (⟨(a0a x0_2 x17_2).f0, (a0a x0_2 x17_2).f1⟩ : S33)) := ⟨_, rfl⟩; (replace H : (api_Entry_123.l3 k2 y114 x14_1 ji49) = some r := by first | (rw [hy114]; with_reducible exact H) | (have H2_ := (ui _ _).symm.trans H; rw [hy114]; with_reducible exact H2_) | (have H2_ := (ui _ _).symm.trans H; with_reducible exact H2_) | with_reducible exact H | (rw [hy114]; exact H) | exact H); have Ny114 := za hy114; clear hy114
                     as_aux_lemma =>
                      have H' := za H; clear H
                      try go_wp2
                      have n0_ := za (xb HO_0.out); have n1_ := za (Kept.drew HK.out); have n2_ := za (us HB.out); clear HO_0 HK HB; have HO_0 := n0_; have HK := n1_; have HB := n2_; clear n0_ n1_ n2_; obtain ⟨Ao57, co57, eo57⟩ := vw HO_0.out; (first | subst eo57 | (injection eo57 with f1_ f2_ f3_; have f4_ := f1_.symm; have f5_ := f3_.symm; clear f1_ f2_ f3_; subst f4_; subst f5_)); have p111 : 0 ≤ ((ji49) : Int) := ud (by assumption); have q111 : (ji49) < (x0_2.length : Int) := ud (by assumption); obtain ⟨ad111, e111, hx111_0, hx111_1⟩ := a0e (uz HO_0.out).2.2 (ji49) p111 q111
                      cases e111
                      replace p111 := eq_true p111; replace q111 := eq_true q111; have p112 : 0 ≤ (x17_2 : Int) := ud (by assumption); have q112 : x17_2 < (x0_2.length : Int) := ud (by assumption); obtain ⟨ad112, e112, hx112_0, hx112_1⟩ := a0e (uz HO_0.out).2.2 x17_2 p112 q112; obtain rfl : ad111 = ad112 := (by injection e112); replace p112 := eq_true p112; replace q112 := eq_true q112; have p54 : 0 ≤ (x17_2 : Int) := ud (by assumption); have q54 : (x17_2 : Int) < ((x0_2.length : Int) : Int) := ud (by assumption); obtain ⟨go54, co54, eo54, gb54, gl54, cl54, HG54⟩ := Kd.RC_form HO_0.out (by omega); (first | cases eo54 | (injection eo54 with ea_ en_ ec_; (first | subst ea_ | (injection ea_ with ea_; subst ea_)); subst ec_; clear en_)); have GB54 := za gb54; have GG54 := za HG54; clear gb54 gl54 HG54; have HMgo54 := za (show (P0_ go54 ∨ w.heap.size ≤ go54) from (HO_0.out.1 _ rfl)); (first | simp only [add_plain] at hx111_0 | skip); (first | simp only [add_plain] at hx111_1 | skip); (first | simp only [add_plain] at hx112_0 | skip); (first | simp only [add_plain] at hx112_1 | skip); obtain ⟨ce54, hcl54, hM54, hcc54, hfr54⟩ := Kd.RC_elem HO_0.out z33 (x17_2 : Int) p54 q54; obtain rfl := a1m hM54; have hx54_0 : World.cell? _ ⟨go54, (x17_2 : Int).toNat * 2, none⟩ = some (.int .u64 ((a0a x0_2 x17_2).f0)) := hcc54 0 _ rfl; have hx54_1 : World.cell? _ ⟨go54, (x17_2 : Int).toNat * 2 + 1, none⟩ = some (.int .i64 ((a0a x0_2 x17_2).f1)) := hcc54 1 _ rfl; have hf54_0 : World.frozen? _ ⟨go54, (x17_2 : Int).toNat * 2, none⟩ = false := hfr54 0; have hf54_1 : World.frozen? _ ⟨go54, (x17_2 : Int).toNat * 2 + 1, none⟩ = false := hfr54 1; clear hcl54 hcc54 hfr54 hM54; replace p54 := eq_true p54; replace q54 := eq_true q54; obtain ⟨ce58, hcl58, hM58, hcc58, hfr58⟩ := Kd.RC_elem HO_0.out z33 (x17_2 : Int) (ud (by assumption)) (by have h_ : (x17_2 : Int) < ((x0_2.length : Int) : Int) := ud (by assumption); first | exact h_ | (have e_ := (uz HO_0.out).1; omega) | simpa using h_); obtain rfl := a1m hM58; have HP58 := (Kd.RC_seg HO_0.out (x17_2 : Int) (ud (by assumption)) (by have h_ : (x17_2 : Int) < ((x0_2.length : Int) : Int) := ud (by assumption); first | exact h_ | (have e_ := (uz HO_0.out).1; omega) | simpa using h_) (seg := [.int .u64 ((a0a x0_2 (ji49)).f0), .int .i64 ((a0a x0_2 (ji49)).f1)]) (j := 0) hcl58 hcc58 (show 2 ≤ 2 from by decide) (x' := (⟨(a0a x0_2 (ji49)).f0, (a0a x0_2 (ji49)).f1⟩ : S33)) (a0v _ _ _ (⟨(a0a x0_2 (ji49)).f0, (a0a x0_2 (ji49)).f1⟩ : S33) ) (fun _ hk => hk)).1; rw [← Ny113.out] at HP58; have HQ58 := za HP58; clear hcl58 hcc58 hfr58 hM58 HP58; have p55 : 0 ≤ ((ji49) : Int) := ud (by assumption); have q55 : ((ji49) : Int) < ((x0_2.length : Int) : Int) := ud (by assumption); obtain ⟨ce55, hcl55, hM55, hcc55, hfr55⟩ := Kd.RC_elem HQ58.out z33 ((ji49) : Int) p55 q55; obtain rfl := a1m hM55; have hx55_0 : World.cell? _ ⟨go54, ((ji49) : Int).toNat * 2, none⟩ = some (.int .u64 ((a0a y113 (ji49)).f0)) := hcc55 0 _ rfl; have hx55_1 : World.cell? _ ⟨go54, ((ji49) : Int).toNat * 2 + 1, none⟩ = some (.int .i64 ((a0a y113 (ji49)).f1)) := hcc55 1 _ rfl; have hf55_0 : World.frozen? _ ⟨go54, ((ji49) : Int).toNat * 2, none⟩ = false := hfr55 0; have hf55_1 : World.frozen? _ ⟨go54, ((ji49) : Int).toNat * 2 + 1, none⟩ = false := hfr55 1; clear hcl55 hcc55 hfr55 hM55; replace p55 := eq_true p55; replace q55 := eq_true q55; obtain ⟨ce59, hcl59, hM59, hcc59, hfr59⟩ := Kd.RC_elem HQ58.out z33 ((ji49) : Int) (ud (by assumption)) (by have h_ : ((ji49) : Int) < ((x0_2.length : Int) : Int) := ud (by assumption); first | exact h_ | (have e_ := (uz HO_0.out).1; omega) | simpa using h_); obtain rfl := a1m hM59; have HP59 := (Kd.RC_seg HQ58.out ((ji49) : Int) (ud (by assumption)) (by have h_ : ((ji49) : Int) < ((x0_2.length : Int) : Int) := ud (by assumption); first | exact h_ | (have e_ := (uz HO_0.out).1; omega) | simpa using h_) (seg := [.int .u64 ((a0a x0_2 x17_2).f0), .int .i64 ((a0a x0_2 x17_2).f1)]) (j := 0) hcl59 hcc59 (show 2 ≤ 2 from by decide) (x' := (⟨(a0a x0_2 x17_2).f0, (a0a x0_2 x17_2).f1⟩ : S33)) (a0v _ _ _ (⟨(a0a x0_2 x17_2).f0, (a0a x0_2 x17_2).f1⟩ : S33) ) (fun _ hk => hk)).1; rw [← Ny114.out] at HP59; have HQ59 := za HP59; clear hcl59 hcc59 hfr59 hM59 HP59; refine start_ (n := 18) (S := fun w' => w'.cell? (⟨go54, (((ji49)).toNat * 2), none⟩ : Addr) = some (.int .u64 ((a0a x0_2 (ji49)).f0)) ∧ w'.cell? ⟨(⟨go54, (((ji49)).toNat * 2), none⟩ : Addr).block, (⟨go54, (((ji49)).toNat * 2), none⟩ : Addr).off + 1, none⟩ = some (.int .i64 ((a0a x0_2 (ji49)).f1)) ∧ w'.cell? ⟨go54, ((x17_2).toNat * 2), none⟩ = some (.int .u64 ((a0a x0_2 x17_2).f0)) ∧ w'.cell? ⟨go54, ((x17_2).toNat * 2) + 1, none⟩ = some (.int .i64 ((a0a x0_2 x17_2).f1))) (ds := [15, 17]) #[xX, xX, xX, xX, xX, xX, xX, xX, xX, xX, xX, xX, xX, xX, xX, xX, xX, xX] (by kernel_rfl) rfl rfl ⟨hx111_0, hx111_1, hx112_0, hx112_1⟩ (fun hHeld => ?_); refine with_tabW api_Entry_123.tab23 api_Entry_123.bits23 (fun HT_ HW_ => ?_); generalize wr.drew = w56 at HO_0 HK HB GG54 HQ58 HQ59 hf54_0 hf54_1 hf55_0 hf55_1 hx111_0 hx111_1 hx112_0 hx112_1 hx54_0 hx54_1 hx55_0 hx55_1 hHeld ⊢; have hz55_0 : World.frozen? w56 ⟨go54, ((ji49) : Int).toNat * 2, none⟩ = false := peel_f hf55_0; have hz55_1 : World.frozen? w56 ⟨go54, ((ji49) : Int).toNat * 2 + 1, none⟩ = false := peel_f hf55_1; have hy55_0 : World.cell? (World.setCell w56 ⟨go54, (x17_2 : Int).toNat * 2, none⟩ (.int .u64 ((a0a x0_2 (ji49)).f0))) ⟨go54, ((ji49) : Int).toNat * 2, none⟩ = some (.int .u64 ((a0a y113 (ji49)).f0)) := peel_c0 hx55_0 (by show (x17_2 : Int).toNat * 2 + 1 ≠ _; omega); have hy55_1 : World.cell? ((World.setCell w56 ⟨go54, (x17_2 : Int).toNat * 2, none⟩ (.int .u64 ((a0a x0_2 (ji49)).f0))).setCell ⟨go54, (x17_2 : Int).toNat * 2 + 1, none⟩ (.int .i64 ((a0a x0_2 (ji49)).f1))) ⟨go54, ((ji49) : Int).toNat * 2 + 1, none⟩ = some (.int .i64 ((a0a y113 (ji49)).f1)) := hx55_1
                      refine pU (i := 0) (N := some 113) (bA 18 1) (um HT_.out (by kernel_rfl)) rfl ?_
                      refine pU (i := 1) (N := some 114) (bA 18 3) (um HT_.out (by kernel_rfl)) rfl ?_
                      refine pU (i := 2) (N := some 115) (bA 18 7) (um HT_.out (by kernel_rfl)) rfl ?_
                      refine pU (i := 3) (N := some 116) (bA 18 15) (um HT_.out (by kernel_rfl)) rfl ?_
                      refine pU (i := 4) (N := some 117) (bA 18 31) (um HT_.out (by kernel_rfl)) rfl ?_
                      refine pU (i := 5) (N := some 118) (bA 18 63) (um HT_.out (by kernel_rfl)) rfl ?_
                      refine pU (i := 6) (N := some 119) (bA 18 127) (um HT_.out (by kernel_rfl)) rfl ?_
                      refine pU (i := 7) (N := some 120) (bA 18 255) (um HT_.out (by kernel_rfl)) rfl ?_
                      refine pU (i := 8) (N := some 121) (bA 18 511) (um HT_.out (by kernel_rfl)) rfl ?_
                      refine pU (i := 10) (N := some 123) (bA 18 1535) (um HT_.out (by kernel_rfl)) rfl ?_
                      refine pU (i := 11) (N := some 124) (bA 18 3583) (um HT_.out (by kernel_rfl)) rfl ?_
                      refine pU (i := 12) (N := some 125) (bA 18 7679) (um HT_.out (by kernel_rfl)) rfl ?_
                      refine tU (i := 9) (N := some 122) (bA 18 8191) (vp HT_.out HW_.out (by kernel_rfl)) rfl hHeld (by (constructor; (rintro w' ⟨s0, s1, s2, s3⟩; go_simp; (with_reducible rfl)); (simp only [Act.put, ua, ub, uc, ue, uf]; rfl))) ?_
                      refine tU (i := 13) (N := some 126) (bA 18 16383) (vp HT_.out HW_.out (by kernel_rfl)) rfl hHeld (by (constructor; (rintro w' ⟨s0, s1, s2, s3⟩; go_simp; (with_reducible rfl)); (simp only [Act.put, ua, ub, uc, ue, uf]; rfl))) ?_
                      refine pU (i := 14) (N := some 127) (bA 18 32767) (um HT_.out (by kernel_rfl)) rfl ?_
                      refine last_ (i := 15) (N := none) (bA 18 65535) rfl rfl (one_of HT_.out (by kernel_rfl)) (by decide) (fun K hK => ?_); refine skip_ (w1 := ?_) (by rfl) rfl ?_ ?_; rotate_left
                      · go_simp; rfl
                      refine hK.out _ _ ?_; clear hK K; refine pU (i := 16) (N := some 128) (bA 18 131071) (um HT_.out (by kernel_rfl)) rfl ?_
                      refine last_ (i := 17) (N := none) (bA 18 262143) rfl rfl (one_of HT_.out (by kernel_rfl)) (by decide) (fun K hK => ?_); refine skip_ (w1 := ?_) (by rfl) rfl ?_ ?_; rotate_left
                      · go_simp; rfl
                      refine hK.out _ _ ?_; clear hK K; refine done_ (done_of HT_.out (by kernel_rfl)) ?_
                      try go_wp2
                      go_roundg k2
                      case measure => have := HK1.out; have := HK2.out; omega
                      case rel => exact ⟨(y114), (ji49), (by first | rfl | (simp; done) | (simp only [← hji49] <;> (first | rfl | simp)) | (simp [*]; done)), H', ⟨by have := HK1.out; have := HK2.out; omega⟩, ⟨by (with_reducible repeat (first | apply Kd.RC_alloc | apply Kd.RC_drewN | apply xb)); exact HQ59.out⟩, ⟨by repeat (first | (with_reducible first | exact HK.out | apply Kept.alloc | apply Kept.drewN | apply Kept.drew | refine xc ?_ HMgo54.out _ | refine xc ?_ HMgo54.out _ | refine xc ?_ HMgo54.out _ | refine xc ?_ HMgo54.out _) | exact HK.out)⟩, ⟨by repeat (first | (with_reducible first | exact HB.out | apply uv | apply uw | apply us | refine vn ?_ GB54.out | refine vn ?_ GB54.out | refine vn ?_ GB54.out | refine vn ?_ GB54.out) | exact HB.out)⟩⟩
                   · rw [if_neg c53] at H; exact absurd H (by simp)
                 · rw [if_neg c52] at H; exact absurd H (by simp)
               · rw [if_neg c51] at H; exact absurd H (by simp)
             · rw [if_neg c50] at H; exact absurd H (by simp)
           · rw [if_neg c48] at H; have c48b0 : decide (x14_1 < x17_2) = false := decide_eq_false c48; clear c48
             as_aux_lemma =>
              obtain rfl := Option.some.inj H
              go_wp2
              first | go_end0 | ((try simp only [Exit.inBlock, Exit.then]); refine bodyPost_ret (results_none rfl _ _ _) rfl ?_)
              exact ⟨rfl, HO_0.out, HB.out, HK.out⟩
   · rw [if_neg c33] at H; have c33b0 : ((wrap64 (a3 - a2)) == 1) = false := beq_eq_false_iff_ne.mpr c33; have c33b1 : ((wrap64 (a3 - a2)) != 1) = true := bne_iff_ne.mpr c33; have HC60 := za H; clear H; go_enter Tryz.func123, Tryz.ntmps123
     go_upto_if 140 with (fail)
     go_cut [20, 21] (fun v20 v21 wc => ∃ (kq : Nat) (x20_59 : Int) (x21_59 : Int), v20 = .int .i64 x20_59 ∧ v21 = .int .i64 x21_59 ∧ Aside0 (api_Entry_123.j4 kq l0 a1 a2 a3 (wrap64 ((IntKind.u64.wrap (wrap64 (a1 + a3))) / 2)) (wrap64 ((wrap64 ((IntKind.u64.wrap (wrap64 (a1 + a3))) / 2)) + a2)) x20_59 x21_59 = some r) ∧ Aside0 (kq ≤ k) ∧ Aside0 (Kd.RC k33 33 wc w0.heap.size (fun k_ => (P0_ k_ ∨ w.heap.size ≤ k_)) u9000_ l0) ∧ Aside0 (Kept w wc (fun k_ => P0_ k_)) ∧ Aside0 (Below w0.heap.size w0 wc))
     case first =>
      have H := HC60.out; clear HC60
      by_cases c61 : a2 > (wrap64 ((IntKind.u64.wrap (wrap64 (a1 + a3))) / 2))
      · rw [if_pos c61] at H; have c61b0 : decide ((wrap64 ((IntKind.u64.wrap (wrap64 (a1 + a3))) / 2)) < a2) = true := decide_eq_true c61; clear c61; (first | rw [c61b0] | (simp only [ue, uf]; rw [c61b0]) | skip)
        as_aux_lemma =>
         have H' := za H; clear H
         go_wp2
         go_meet
         case rel => exact ⟨_, (wrap64 ((wrap64 ((wrap64 ((IntKind.u64.wrap (wrap64 (a1 + a3))) / 2)) + a2)) - a3)), (wrap64 ((IntKind.u64.wrap (wrap64 (a1 + a3))) / 2)), rfl, rfl, H', ⟨by first | omega | exact ut _⟩, ⟨HO0.out⟩, ⟨HK.out⟩, ⟨HB.out⟩⟩
      · rw [if_neg c61] at H; have c61b0 : decide ((wrap64 ((IntKind.u64.wrap (wrap64 (a1 + a3))) / 2)) < a2) = false := decide_eq_false c61; clear c61; (first | rw [c61b0] | (simp only [ue, uf]; rw [c61b0]) | skip)
        as_aux_lemma =>
         have H' := za H; clear H
         go_wp2
         go_meet
         case rel => exact ⟨_, (a1), (a2), rfl, rfl, H', ⟨by first | omega | exact ut _⟩, ⟨HO0.out⟩, ⟨HK.out⟩, ⟨HB.out⟩⟩
     case rest =>
      clear HC60
      try clear c6
      try clear c6b0
      try clear c6b1
      try clear c33
      try clear c33b0
      try clear c33b1
      obtain ⟨kq, x20_59, x21_59, rfl, rfl, HA, HJ59, HO_0, HK, HB⟩ := hcut
      cases kq with
      | zero => exact absurd HA.out (by simp [api_Entry_123.j4])
      | succ kj59 =>
       have H := HA.out; clear HA; simp only [api_Entry_123.j4] at H; have H' := za H; clear H
       go_wp2
       go_loopg [20, 21] kj59 (fun kq v20 v21 w' => ∃ (x20_2 : Int) (x21_2 : Int), v20 = .int .i64 x20_2 ∧ v21 = .int .i64 x21_2 ∧ Aside0 (api_Entry_123.l4 kq l0 a1 a2 a3 (wrap64 ((IntKind.u64.wrap (wrap64 (a1 + a3))) / 2)) (wrap64 ((wrap64 ((IntKind.u64.wrap (wrap64 (a1 + a3))) / 2)) + a2)) x20_2 x21_2 (wrap64 ((wrap64 ((wrap64 ((IntKind.u64.wrap (wrap64 (a1 + a3))) / 2)) + a2)) - 1)) = some r) ∧ Aside0 (kq ≤ kj59) ∧ Aside0 (Kd.RC k33 33 w' w0.heap.size (fun k_ => (P0_ k_ ∨ w.heap.size ≤ k_)) u9000_ l0) ∧ Aside0 (Kept w w' (fun k_ => P0_ k_)) ∧ Aside0 (Below w0.heap.size w0 w'))
       case atStart => exact ⟨(x20_59), (x21_59), rfl, rfl, H', ⟨ut _⟩, ⟨HO_0.out⟩, ⟨HK.out⟩, ⟨HB.out⟩⟩
       case round =>
        clear H'
        try clear c6
        try clear c6b0
        try clear c6b1
        try clear c33
        try clear c33b0
        try clear c33b1
        obtain ⟨x20_2, x21_2, rfl, rfl, HA, HK2, HO_0, HK, HB⟩ := hrel
        cases gk with
        | zero => exact absurd HA.out (by simp [api_Entry_123.l4])
        | succ k2 =>
         have H := HA.out; clear HA; simp only [api_Entry_123.l4] at H
         by_cases c62 : x20_2 < x21_2
         · rw [if_pos c62] at H; have c62b0 : decide (x20_2 < x21_2) = true := decide_eq_true c62; clear c62; obtain ⟨ji63, hji63⟩ : ∃ j_ : Int, (wrap64 ((wrap64 ((wrap64 ((wrap64 ((IntKind.u64.wrap (wrap64 (a1 + a3))) / 2)) + a2)) - 1)) - (wrap64 ((IntKind.u64.wrap (wrap64 (x20_2 + x21_2))) / 2)))) = j_ := ⟨_, rfl⟩; (replace H : (if 0 ≤ (ji63) then (if (ji63) < (l0.length : Int) then (if 0 ≤ (wrap64 ((IntKind.u64.wrap (wrap64 (x20_2 + x21_2))) / 2)) then (if (wrap64 ((IntKind.u64.wrap (wrap64 (x20_2 + x21_2))) / 2)) < (l0.length : Int) then ((entry_Sort_1.f k2 ((a0a l0 (ji63)).f0) ((a0a l0 (ji63)).f1) ((a0a l0 (wrap64 ((IntKind.u64.wrap (wrap64 (x20_2 + x21_2))) / 2))).f0) ((a0a l0 (wrap64 ((IntKind.u64.wrap (wrap64 (x20_2 + x21_2))) / 2))).f1)).bind fun t117 => (if t117 < 0 then (api_Entry_123.l4 k2 l0 a1 a2 a3 (wrap64 ((IntKind.u64.wrap (wrap64 (a1 + a3))) / 2)) (wrap64 ((wrap64 ((IntKind.u64.wrap (wrap64 (a1 + a3))) / 2)) + a2)) x20_2 (wrap64 ((IntKind.u64.wrap (wrap64 (x20_2 + x21_2))) / 2)) (wrap64 ((wrap64 ((wrap64 ((IntKind.u64.wrap (wrap64 (a1 + a3))) / 2)) + a2)) - 1))) else (api_Entry_123.l4 k2 l0 a1 a2 a3 (wrap64 ((IntKind.u64.wrap (wrap64 (a1 + a3))) / 2)) (wrap64 ((wrap64 ((IntKind.u64.wrap (wrap64 (a1 + a3))) / 2)) + a2)) (wrap64 ((wrap64 ((IntKind.u64.wrap (wrap64 (x20_2 + x21_2))) / 2)) + 1)) x21_2 (wrap64 ((wrap64 ((wrap64 ((IntKind.u64.wrap (wrap64 (a1 + a3))) / 2)) + a2)) - 1))))) else (none)) else (none)) else (none)) else (none)) = some r := by first | (rw [hji63] at H; exact H) | (simp only [hji63] at H ⊢; exact H)); have hji63w : (IntKind.i64.wrap ((wrap64 ((wrap64 ((wrap64 ((IntKind.u64.wrap (wrap64 (a1 + a3))) / 2)) + a2)) - 1)) - (wrap64 ((IntKind.u64.wrap (wrap64 (x20_2 + x21_2))) / 2)))) = ji63 := (ue _).trans hji63
           by_cases c64 : 0 ≤ (ji63)
           · rw [if_pos c64] at H; have c64b0 : decide (0 ≤ (ji63)) = true := decide_eq_true c64; clear c64
             by_cases c65 : (ji63) < (l0.length : Int)
             · rw [if_pos c65] at H; have c65b0 : decide ((ji63) < (l0.length : Int)) = true := decide_eq_true c65; clear c65; obtain ⟨ji66, hji66⟩ : ∃ j_ : Int, (wrap64 ((IntKind.u64.wrap (wrap64 (x20_2 + x21_2))) / 2)) = j_ := ⟨_, rfl⟩; (replace H : (if 0 ≤ (ji66) then (if (ji66) < (l0.length : Int) then ((entry_Sort_1.f k2 ((a0a l0 (ji63)).f0) ((a0a l0 (ji63)).f1) ((a0a l0 (ji66)).f0) ((a0a l0 (ji66)).f1)).bind fun t117 => (if t117 < 0 then (api_Entry_123.l4 k2 l0 a1 a2 a3 (wrap64 ((IntKind.u64.wrap (wrap64 (a1 + a3))) / 2)) (wrap64 ((wrap64 ((IntKind.u64.wrap (wrap64 (a1 + a3))) / 2)) + a2)) x20_2 ji66 (wrap64 ((wrap64 ((wrap64 ((IntKind.u64.wrap (wrap64 (a1 + a3))) / 2)) + a2)) - 1))) else (api_Entry_123.l4 k2 l0 a1 a2 a3 (wrap64 ((IntKind.u64.wrap (wrap64 (a1 + a3))) / 2)) (wrap64 ((wrap64 ((IntKind.u64.wrap (wrap64 (a1 + a3))) / 2)) + a2)) (wrap64 ((ji66) + 1)) x21_2 (wrap64 ((wrap64 ((wrap64 ((IntKind.u64.wrap (wrap64 (a1 + a3))) / 2)) + a2)) - 1))))) else (none)) else (none)) = some r := by first | (rw [hji66] at H; exact H) | (simp only [hji66] at H ⊢; exact H)); have hji66w : (IntKind.i64.wrap ((IntKind.u64.wrap (wrap64 (x20_2 + x21_2))) / 2)) = ji66 := (ue _).trans hji66; (try rw [hji66] at hji63); (try rw [hji66] at hji63w)
               by_cases c67 : 0 ≤ (ji66)
               · rw [if_pos c67] at H; have c67b0 : decide (0 ≤ (ji66)) = true := decide_eq_true c67; clear c67
                 by_cases c68 : (ji66) < (l0.length : Int)
                 · rw [if_pos c68] at H; have c68b0 : decide ((ji66) < (l0.length : Int)) = true := decide_eq_true c68; clear c68; replace H := Option.bind_eq_some_iff.mp H; obtain ⟨t117, A690, H⟩ := H; replace H : (if t117 < 0 then (api_Entry_123.l4 k2 l0 a1 a2 a3 (wrap64 ((IntKind.u64.wrap (wrap64 (a1 + a3))) / 2)) (wrap64 ((wrap64 ((IntKind.u64.wrap (wrap64 (a1 + a3))) / 2)) + a2)) x20_2 ji66 (wrap64 ((wrap64 ((wrap64 ((IntKind.u64.wrap (wrap64 (a1 + a3))) / 2)) + a2)) - 1))) else (api_Entry_123.l4 k2 l0 a1 a2 a3 (wrap64 ((IntKind.u64.wrap (wrap64 (a1 + a3))) / 2)) (wrap64 ((wrap64 ((IntKind.u64.wrap (wrap64 (a1 + a3))) / 2)) + a2)) (wrap64 ((ji66) + 1)) x21_2 (wrap64 ((wrap64 ((wrap64 ((IntKind.u64.wrap (wrap64 (a1 + a3))) / 2)) + a2)) - 1)))) = some r := H; have A69 := za A690; clear A690
                   by_cases c70 : t117 < 0
                   · rw [if_pos c70] at H; have c70b0 : decide (t117 < 0) = true := decide_eq_true c70; clear c70
                     as_aux_lemma =>
                      have H' := za H; clear H
                      try go_wp2
                      have n0_ := za (xb HO_0.out); have n1_ := za (Kept.drew HK.out); have n2_ := za (us HB.out); clear HO_0 HK HB; have HO_0 := n0_; have HK := n1_; have HB := n2_; clear n0_ n1_ n2_; obtain ⟨Ao72, co72, eo72⟩ := vw HO_0.out; (first | subst eo72 | (injection eo72 with f1_ f2_ f3_; have f4_ := f1_.symm; have f5_ := f3_.symm; clear f1_ f2_ f3_; subst f4_; subst f5_)); have p115 : 0 ≤ ((ji63) : Int) := ud (by assumption); have q115 : (ji63) < (l0.length : Int) := ud (by assumption); obtain ⟨ad115, e115, hx115_0, hx115_1⟩ := a0e (uz HO_0.out).2.2 (ji63) p115 q115
                      cases e115
                      replace p115 := eq_true p115; replace q115 := eq_true q115; have p116 : 0 ≤ ((ji66) : Int) := ud (by assumption); have q116 : (ji66) < (l0.length : Int) := ud (by assumption); obtain ⟨ad116, e116, hx116_0, hx116_1⟩ := a0e (uz HO_0.out).2.2 (ji66) p116 q116; obtain rfl : ad115 = ad116 := (by injection e116); replace p116 := eq_true p116; replace q116 := eq_true q116; refine start_ (n := 14) (S := fun w' => w'.cell? (ad115.add (((ji63)).toNat * 2)) = some (.int .u64 ((a0a l0 (ji63)).f0)) ∧ w'.cell? ⟨(ad115.add (((ji63)).toNat * 2)).block, (ad115.add (((ji63)).toNat * 2)).off + 1, none⟩ = some (.int .i64 ((a0a l0 (ji63)).f1)) ∧ w'.cell? (ad115.add (((ji66)).toNat * 2)) = some (.int .u64 ((a0a l0 (ji66)).f0)) ∧ w'.cell? ⟨(ad115.add (((ji66)).toNat * 2)).block, (ad115.add (((ji66)).toNat * 2)).off + 1, none⟩ = some (.int .i64 ((a0a l0 (ji66)).f1))) (ds := []) #[xX, xX, xX, xX, xX, xX, xX, xX, xX, xX, xX, xX, xX, xX] (by kernel_rfl) rfl rfl ⟨hx115_0, hx115_1, hx116_0, hx116_1⟩ (fun hHeld => ?_); refine with_tabW api_Entry_123.tab35 api_Entry_123.bits35 (fun HT_ HW_ => ?_); generalize wr.drew = w71 at HO_0 HK HB hx115_0 hx115_1 hx116_0 hx116_1 hHeld ⊢; refine pU (i := 0) (N := some 158) (bA 14 1) (um HT_.out (by kernel_rfl)) rfl ?_
                      refine pU (i := 1) (N := some 159) (bA 14 3) (um HT_.out (by kernel_rfl)) rfl ?_
                      refine pU (i := 2) (N := some 160) (bA 14 7) (um HT_.out (by kernel_rfl)) rfl ?_
                      refine pU (i := 3) (N := some 161) (bA 14 15) (um HT_.out (by kernel_rfl)) rfl ?_
                      refine pU (i := 4) (N := some 162) (bA 14 31) (um HT_.out (by kernel_rfl)) rfl ?_
                      refine pU (i := 5) (N := some 163) (bA 14 63) (um HT_.out (by kernel_rfl)) rfl ?_
                      refine pU (i := 7) (N := some 165) (bA 14 191) (um HT_.out (by kernel_rfl)) rfl ?_
                      refine pU (i := 8) (N := some 166) (bA 14 447) (um HT_.out (by kernel_rfl)) rfl ?_
                      refine pU (i := 9) (N := some 167) (bA 14 959) (um HT_.out (by kernel_rfl)) rfl ?_
                      refine tU (i := 6) (N := some 164) (bA 14 1023) (vp HT_.out HW_.out (by kernel_rfl)) rfl hHeld (by (constructor; (rintro w' ⟨s0, s1, s2, s3⟩; go_simp; (with_reducible rfl)); (simp only [Act.put, ua, ub, uc, ue, uf]; rfl))) ?_
                      refine tU (i := 10) (N := some 168) (bA 14 2047) (vp HT_.out HW_.out (by kernel_rfl)) rfl hHeld (by (constructor; (rintro w' ⟨s0, s1, s2, s3⟩; go_simp; (with_reducible rfl)); (simp only [Act.put, ua, ub, uc, ue, uf]; rfl))) ?_
                      refine one_ (i := 11) (N := some 169) (bA 14 4095) rfl rfl (one_of HT_.out (by kernel_rfl)) (by decide) (fun K hK => ?_); refine goesV_ Tryz.func85 (by kernel_rfl) rfl #[.agg #[.int .u64 ((a0a l0 (ji63)).f0), .int .i64 ((a0a l0 (ji63)).f1)], .agg #[.int .u64 ((a0a l0 (ji66)).f0), .int .i64 ((a0a l0 (ji66)).f1)]] (by rfl) rfl rfl (by rfl) (by (try simp only [ug, ul, uo]); first | done | (simp only [hji63, hji66]; rfl) | rfl | (simp only [uk, uj]; rfl)) ?_; (with_reducible refine (entry_Sort_1.calls k2 ((a0a l0 (ji63)).f0) ((a0a l0 (ji63)).f1) ((a0a l0 (ji66)).f0) ((a0a l0 (ji66)).f1) t117 _ A69.out).mono ?_); rintro e w73 ⟨rfl, hb⟩; have HS0_ := (hb.cell (World.block_lt_of_cell? _ _ (hHeld.1))).trans (hHeld.1); have HS1_ := (hb.cell (World.block_lt_of_cell? _ _ (hHeld.2.1))).trans (hHeld.2.1); have HS2_ := (hb.cell (World.block_lt_of_cell? _ _ (hHeld.2.2.1))).trans (hHeld.2.2.1); have HS3_ := (hb.cell (World.block_lt_of_cell? _ _ (hHeld.2.2.2))).trans (hHeld.2.2.2); refine ⟨_, rfl, ?_⟩; have n0_ := za (Kd.RC_below HO_0.out hb); have n1_ := za (Kept.below (S := (fun k_ => P0_ k_)) HK.out hb); have n2_ := za (ur HB.out hb); clear HO_0 HK HB; have HO_0 := n0_; have HK := n1_; have HB := n2_; clear n0_ n1_ n2_; (try clear hb); (try clear hk); (try clear hi); refine hK.out _ _ ⟨HS0_, HS1_, HS2_, HS3_⟩ (fun hHeld => ?_); clear hK K; refine vv (a' := ?_) ?_ ?_; rotate_left
                      · show Act.put _ (some 169) _ = _
                        simp only [Act.put, ua, ub, uc, ue, uf]; rfl
                      refine pU (i := 12) (N := some 170) (bA 14 8191) (um HT_.out (by kernel_rfl)) rfl ?_
                      refine pU (i := 13) (N := some 171) (bA 14 16383) (um HT_.out (by kernel_rfl)) rfl ?_
                      refine done_ (done_of HT_.out (by kernel_rfl)) ?_
                      try go_wp2
                      go_roundg k2
                      case measure => have := HJ59.out; have := HK2.out; omega
                      case rel => exact ⟨(x20_2), (ji66), rfl, (by first | rfl | (simp; done) | (simp only [← hji66] <;> (first | rfl | simp)) | (simp [*]; done)), H', ⟨by have := HJ59.out; have := HK2.out; omega⟩, ⟨HO_0.out⟩, ⟨HK.out⟩, ⟨HB.out⟩⟩
                   · rw [if_neg c70] at H; have c70b0 : decide (t117 < 0) = false := decide_eq_false c70; clear c70
                     as_aux_lemma =>
                      have H' := za H; clear H
                      try go_wp2
                      have n0_ := za (xb HO_0.out); have n1_ := za (Kept.drew HK.out); have n2_ := za (us HB.out); clear HO_0 HK HB; have HO_0 := n0_; have HK := n1_; have HB := n2_; clear n0_ n1_ n2_; obtain ⟨Ao75, co75, eo75⟩ := vw HO_0.out; (first | subst eo75 | (injection eo75 with f1_ f2_ f3_; have f4_ := f1_.symm; have f5_ := f3_.symm; clear f1_ f2_ f3_; subst f4_; subst f5_)); have p115 : 0 ≤ ((ji63) : Int) := ud (by assumption); have q115 : (ji63) < (l0.length : Int) := ud (by assumption); obtain ⟨ad115, e115, hx115_0, hx115_1⟩ := a0e (uz HO_0.out).2.2 (ji63) p115 q115
                      cases e115
                      replace p115 := eq_true p115; replace q115 := eq_true q115; have p116 : 0 ≤ ((ji66) : Int) := ud (by assumption); have q116 : (ji66) < (l0.length : Int) := ud (by assumption); obtain ⟨ad116, e116, hx116_0, hx116_1⟩ := a0e (uz HO_0.out).2.2 (ji66) p116 q116; obtain rfl : ad115 = ad116 := (by injection e116); replace p116 := eq_true p116; replace q116 := eq_true q116; refine start_ (n := 14) (S := fun w' => w'.cell? (ad115.add (((ji63)).toNat * 2)) = some (.int .u64 ((a0a l0 (ji63)).f0)) ∧ w'.cell? ⟨(ad115.add (((ji63)).toNat * 2)).block, (ad115.add (((ji63)).toNat * 2)).off + 1, none⟩ = some (.int .i64 ((a0a l0 (ji63)).f1)) ∧ w'.cell? (ad115.add (((ji66)).toNat * 2)) = some (.int .u64 ((a0a l0 (ji66)).f0)) ∧ w'.cell? ⟨(ad115.add (((ji66)).toNat * 2)).block, (ad115.add (((ji66)).toNat * 2)).off + 1, none⟩ = some (.int .i64 ((a0a l0 (ji66)).f1))) (ds := []) #[xX, xX, xX, xX, xX, xX, xX, xX, xX, xX, xX, xX, xX, xX] (by kernel_rfl) rfl rfl ⟨hx115_0, hx115_1, hx116_0, hx116_1⟩ (fun hHeld => ?_); refine with_tabW api_Entry_123.tab35 api_Entry_123.bits35 (fun HT_ HW_ => ?_); generalize wr.drew = w74 at HO_0 HK HB hx115_0 hx115_1 hx116_0 hx116_1 hHeld ⊢; refine pU (i := 0) (N := some 158) (bA 14 1) (um HT_.out (by kernel_rfl)) rfl ?_
                      refine pU (i := 1) (N := some 159) (bA 14 3) (um HT_.out (by kernel_rfl)) rfl ?_
                      refine pU (i := 2) (N := some 160) (bA 14 7) (um HT_.out (by kernel_rfl)) rfl ?_
                      refine pU (i := 3) (N := some 161) (bA 14 15) (um HT_.out (by kernel_rfl)) rfl ?_
                      refine pU (i := 4) (N := some 162) (bA 14 31) (um HT_.out (by kernel_rfl)) rfl ?_
                      refine pU (i := 5) (N := some 163) (bA 14 63) (um HT_.out (by kernel_rfl)) rfl ?_
                      refine pU (i := 7) (N := some 165) (bA 14 191) (um HT_.out (by kernel_rfl)) rfl ?_
                      refine pU (i := 8) (N := some 166) (bA 14 447) (um HT_.out (by kernel_rfl)) rfl ?_
                      refine pU (i := 9) (N := some 167) (bA 14 959) (um HT_.out (by kernel_rfl)) rfl ?_
                      refine tU (i := 6) (N := some 164) (bA 14 1023) (vp HT_.out HW_.out (by kernel_rfl)) rfl hHeld (by (constructor; (rintro w' ⟨s0, s1, s2, s3⟩; go_simp; (with_reducible rfl)); (simp only [Act.put, ua, ub, uc, ue, uf]; rfl))) ?_
                      refine tU (i := 10) (N := some 168) (bA 14 2047) (vp HT_.out HW_.out (by kernel_rfl)) rfl hHeld (by (constructor; (rintro w' ⟨s0, s1, s2, s3⟩; go_simp; (with_reducible rfl)); (simp only [Act.put, ua, ub, uc, ue, uf]; rfl))) ?_
                      refine one_ (i := 11) (N := some 169) (bA 14 4095) rfl rfl (one_of HT_.out (by kernel_rfl)) (by decide) (fun K hK => ?_); refine goesV_ Tryz.func85 (by kernel_rfl) rfl #[.agg #[.int .u64 ((a0a l0 (ji63)).f0), .int .i64 ((a0a l0 (ji63)).f1)], .agg #[.int .u64 ((a0a l0 (ji66)).f0), .int .i64 ((a0a l0 (ji66)).f1)]] (by rfl) rfl rfl (by rfl) (by (try simp only [ug, ul, uo]); first | done | (simp only [hji63, hji66]; rfl) | rfl | (simp only [uk, uj]; rfl)) ?_; (with_reducible refine (entry_Sort_1.calls k2 ((a0a l0 (ji63)).f0) ((a0a l0 (ji63)).f1) ((a0a l0 (ji66)).f0) ((a0a l0 (ji66)).f1) t117 _ A69.out).mono ?_); rintro e w76 ⟨rfl, hb⟩; have HS0_ := (hb.cell (World.block_lt_of_cell? _ _ (hHeld.1))).trans (hHeld.1); have HS1_ := (hb.cell (World.block_lt_of_cell? _ _ (hHeld.2.1))).trans (hHeld.2.1); have HS2_ := (hb.cell (World.block_lt_of_cell? _ _ (hHeld.2.2.1))).trans (hHeld.2.2.1); have HS3_ := (hb.cell (World.block_lt_of_cell? _ _ (hHeld.2.2.2))).trans (hHeld.2.2.2); refine ⟨_, rfl, ?_⟩; have n0_ := za (Kd.RC_below HO_0.out hb); have n1_ := za (Kept.below (S := (fun k_ => P0_ k_)) HK.out hb); have n2_ := za (ur HB.out hb); clear HO_0 HK HB; have HO_0 := n0_; have HK := n1_; have HB := n2_; clear n0_ n1_ n2_; (try clear hb); (try clear hk); (try clear hi); refine hK.out _ _ ⟨HS0_, HS1_, HS2_, HS3_⟩ (fun hHeld => ?_); clear hK K; refine vv (a' := ?_) ?_ ?_; rotate_left
                      · show Act.put _ (some 169) _ = _
                        simp only [Act.put, ua, ub, uc, ue, uf]; rfl
                      refine pU (i := 12) (N := some 170) (bA 14 8191) (um HT_.out (by kernel_rfl)) rfl ?_
                      refine pU (i := 13) (N := some 171) (bA 14 16383) (um HT_.out (by kernel_rfl)) rfl ?_
                      refine done_ (done_of HT_.out (by kernel_rfl)) ?_
                      try go_wp2
                      go_roundg k2
                      case measure => have := HJ59.out; have := HK2.out; omega
                      case rel => exact ⟨(wrap64 ((ji66) + 1)), (x21_2), (by first | rfl | (simp; done) | (simp only [← hji66] <;> (first | rfl | simp)) | (simp [*]; done)), rfl, H', ⟨by have := HJ59.out; have := HK2.out; omega⟩, ⟨HO_0.out⟩, ⟨HK.out⟩, ⟨HB.out⟩⟩
                 · rw [if_neg c68] at H; exact absurd H (by simp)
               · rw [if_neg c67] at H; exact absurd H (by simp)
             · rw [if_neg c65] at H; exact absurd H (by simp)
           · rw [if_neg c64] at H; exact absurd H (by simp)
         · rw [if_neg c62] at H; have c62b0 : decide (x20_2 < x21_2) = false := decide_eq_false c62; clear c62; have HC77 := za H; clear H
           go_upto_region 39 with (fail)
           go_cut [185] (fun v185 wc => ∃ (kq : Nat) (x185_76 : Bool), v185 = .bool x185_76 ∧ Aside0 (api_Entry_123.j6 kq l0 a1 a2 a3 (wrap64 ((IntKind.u64.wrap (wrap64 (a1 + a3))) / 2)) x20_2 (wrap64 ((wrap64 ((wrap64 ((IntKind.u64.wrap (wrap64 (a1 + a3))) / 2)) + a2)) - x20_2)) x185_76 = some r) ∧ Aside0 (kq ≤ k2) ∧ Aside0 (Kd.RC k33 33 wc w0.heap.size (fun k_ => (P0_ k_ ∨ w.heap.size ≤ k_)) u9000_ l0) ∧ Aside0 (Kept w wc (fun k_ => P0_ k_)) ∧ Aside0 (Below w0.heap.size w0 wc))
           case first =>
            have H := HC77.out; clear HC77
            by_cases c78 : x20_2 < a2
            · rw [if_pos c78] at H; have c78b0 : decide (x20_2 < a2) = true := decide_eq_true c78; clear c78; (first | rw [c78b0] | (simp only [ue, uf]; rw [c78b0]) | skip)
              as_aux_lemma =>
               have H' := za H; clear H
               go_wp2
               go_meet
               case rel => exact ⟨_, (decide (a2 < (wrap64 ((wrap64 ((wrap64 ((IntKind.u64.wrap (wrap64 (a1 + a3))) / 2)) + a2)) - x20_2)))), rfl, H', ⟨by have := HJ59.out; have := HK2.out; first | omega | exact ut _⟩, ⟨HO_0.out⟩, ⟨HK.out⟩, ⟨HB.out⟩⟩
            · rw [if_neg c78] at H; have c78b0 : decide (x20_2 < a2) = false := decide_eq_false c78; clear c78; (first | rw [c78b0] | (simp only [ue, uf]; rw [c78b0]) | skip)
              as_aux_lemma =>
               have H' := za H; clear H
               go_wp2
               go_meet
               case rel => exact ⟨_, (false), rfl, H', ⟨by have := HJ59.out; have := HK2.out; first | omega | exact ut _⟩, ⟨HO_0.out⟩, ⟨HK.out⟩, ⟨HB.out⟩⟩
           case rest =>
            clear HC77
            try clear c6
            try clear c6b0
            try clear c6b1
            try clear c33
            try clear c33b0
            try clear c33b1
            try clear c62
            try clear c62b0
            obtain ⟨kq, x185_76, rfl, HA, HJ76, HO_0, HK, HB⟩ := hcut
            cases kq with
            | zero => exact absurd HA.out (by simp [api_Entry_123.j6])
            | succ kj76 =>
             have H := HA.out; clear HA; simp only [api_Entry_123.j6] at H; have HC79 := za H; clear H
             go_upto_if 185 with (fail)
             go_cut [] (fun wc => ∃ (kq : Nat) (x0_78 : List (S33)), Aside0 (api_Entry_123.j7 kq x0_78 a1 a3 (wrap64 ((IntKind.u64.wrap (wrap64 (a1 + a3))) / 2)) x20_2 (wrap64 ((wrap64 ((wrap64 ((IntKind.u64.wrap (wrap64 (a1 + a3))) / 2)) + a2)) - x20_2)) = some r) ∧ Aside0 (kq ≤ kj76) ∧ Aside0 (Kd.RC k33 33 wc w0.heap.size (fun k_ => (P0_ k_ ∨ w.heap.size ≤ k_)) u9000_ x0_78) ∧ Aside0 (Kept w wc (fun k_ => P0_ k_)) ∧ Aside0 (Below w0.heap.size w0 wc))
             case first =>
              have H := HC79.out; clear HC79
              by_cases c80 : x185_76 = true
              · subst c80; (have H1 : ((api_Entry_130.f kj76 l0 x20_2 a2 (wrap64 ((wrap64 ((wrap64 ((IntKind.u64.wrap (wrap64 (a1 + a3))) / 2)) + a2)) - x20_2))).bind fun t118 => (api_Entry_123.j7 kj76 t118 a1 a3 (wrap64 ((IntKind.u64.wrap (wrap64 (a1 + a3))) / 2)) x20_2 (wrap64 ((wrap64 ((wrap64 ((IntKind.u64.wrap (wrap64 (a1 + a3))) / 2)) + a2)) - x20_2)))) = some r := by rw [if_pos rfl] at H; exact H); clear H; have H := H1; clear H1; replace H := Option.bind_eq_some_iff.mp H; obtain ⟨t118, A810, H⟩ := H; replace H : (api_Entry_123.j7 kj76 t118 a1 a3 (wrap64 ((IntKind.u64.wrap (wrap64 (a1 + a3))) / 2)) x20_2 (wrap64 ((wrap64 ((wrap64 ((IntKind.u64.wrap (wrap64 (a1 + a3))) / 2)) + a2)) - x20_2))) = some r := H; have A81 := za A810; clear A810
                as_aux_lemma =>
                 have H' := za H; clear H; obtain ⟨Ao82, co82, eo82⟩ := vw HO_0.out; subst eo82
                 go_wp2_with (first | ((with_reducible refine ux (f := 130) rfl ?_); refine vx (some 191) rfl rfl Tryz.func130 (by kernel_rfl) rfl #[.slice Ao82 l0.length co82, .int .i64 x20_2, .int .i64 a2, .int .i64 (wrap64 ((wrap64 ((wrap64 ((IntKind.u64.wrap (wrap64 (a1 + a3))) / 2)) + a2)) - x20_2)), .func (.func 85) #[] #[]] rfl (by (try simp only [ug, ul, uo]); first | done | rfl | (simp only [uk, uj]; rfl)) ?_; (with_reducible refine (api_Entry_130.calls kj76 (fun k_ => some k_ = (.slice Ao82 l0.length co82 : Value).ownBlock) (.slice Ao82 l0.length co82) l0 x20_2 a2 (wrap64 ((wrap64 ((wrap64 ((IntKind.u64.wrap (wrap64 (a1 + a3))) / 2)) + a2)) - x20_2))  t118 w0 _ ?side1 ?side2 A81.out).mono ?_); (case side1 => repeat (first | (with_reducible first | exact HB.out | apply uv | apply uw | apply us) | exact HB.out)); (case side2 => exact Kd.RC_tight rfl HO_0.out); rintro e w83 ⟨rfl, hy0, hb, hkp⟩; refine ⟨_, rfl, ?_⟩; have n0_ := za (Kd.RC_reok rfl hy0 (fun k_ e_ => HO_0.out.1 k_ e_)); have n1_ := za (Kept.then_ (S := (fun k_ => P0_ k_)) HK.out hkp (fun k_ hs_ => (fun e_ => (HO_0.out.1 k_ e_.symm)) hs_)); have n2_ := za (hb); clear HO_0; clear HK; clear HB; have HO_0 := n0_; have HK := n1_; have HB := n2_; clear n0_ n1_ n2_; (try clear hb); (try clear hkp); (try clear hy0)))
                 go_meet
                 case rel => exact ⟨_, (t118), H', ⟨by have := HJ59.out; have := HK2.out; have := HJ76.out; first | omega | exact ut _⟩, ⟨HO_0.out⟩, ⟨HK.out⟩, ⟨HB.out⟩⟩
              · replace c80 := Bool.eq_false_iff.mpr c80; subst c80; (have H1 : (api_Entry_123.j7 kj76 l0 a1 a3 (wrap64 ((IntKind.u64.wrap (wrap64 (a1 + a3))) / 2)) x20_2 (wrap64 ((wrap64 ((wrap64 ((IntKind.u64.wrap (wrap64 (a1 + a3))) / 2)) + a2)) - x20_2))) = some r := by rw [if_neg (show ¬ (false = true) by decide)] at H; exact H); clear H; have H := H1; clear H1
                as_aux_lemma =>
                 have H' := za H; clear H
                 go_wp2
                 go_meet
                 case rel => exact ⟨_, (l0), H', ⟨by have := HJ59.out; have := HK2.out; have := HJ76.out; first | omega | exact ut _⟩, ⟨HO_0.out⟩, ⟨HK.out⟩, ⟨HB.out⟩⟩
             case rest =>
              clear HC79
              try clear c6
              try clear c6b0
              try clear c6b1
              try clear c33
              try clear c33b0
              try clear c33b1
              try clear c62
              try clear c62b0
              obtain ⟨kq, x0_78, HA, HJ78, HO_0, HK, HB⟩ := hcut
              cases kq with
              | zero => exact absurd HA.out (by simp [api_Entry_123.j7])
              | succ kj78 =>
               have H := HA.out; clear HA; simp only [api_Entry_123.j7] at H; have HC84 := za H; clear H
               go_upto_region 41 with (fail)
               go_cut [199] (fun v199 wc => ∃ (kq : Nat) (x199_83 : Bool), v199 = .bool x199_83 ∧ Aside0 (api_Entry_123.j8 kq x0_78 a1 a3 (wrap64 ((IntKind.u64.wrap (wrap64 (a1 + a3))) / 2)) x20_2 (wrap64 ((wrap64 ((wrap64 ((IntKind.u64.wrap (wrap64 (a1 + a3))) / 2)) + a2)) - x20_2)) x199_83 = some r) ∧ Aside0 (kq ≤ kj78) ∧ Aside0 (Kd.RC k33 33 wc w0.heap.size (fun k_ => (P0_ k_ ∨ w.heap.size ≤ k_)) u9000_ x0_78) ∧ Aside0 (Kept w wc (fun k_ => P0_ k_)) ∧ Aside0 (Below w0.heap.size w0 wc))
               case first =>
                have H := HC84.out; clear HC84
                by_cases c85 : a1 < x20_2
                · rw [if_pos c85] at H; have c85b0 : decide (a1 < x20_2) = true := decide_eq_true c85; clear c85; (first | rw [c85b0] | (simp only [ue, uf]; rw [c85b0]) | skip)
                  as_aux_lemma =>
                   have H' := za H; clear H
                   go_wp2
                   go_meet
                   case rel => exact ⟨_, (decide (x20_2 < (wrap64 ((IntKind.u64.wrap (wrap64 (a1 + a3))) / 2)))), rfl, H', ⟨by have := HJ59.out; have := HK2.out; have := HJ76.out; have := HJ78.out; first | omega | exact ut _⟩, ⟨HO_0.out⟩, ⟨HK.out⟩, ⟨HB.out⟩⟩
                · rw [if_neg c85] at H; have c85b0 : decide (a1 < x20_2) = false := decide_eq_false c85; clear c85; (first | rw [c85b0] | (simp only [ue, uf]; rw [c85b0]) | skip)
                  as_aux_lemma =>
                   have H' := za H; clear H
                   go_wp2
                   go_meet
                   case rel => exact ⟨_, (false), rfl, H', ⟨by have := HJ59.out; have := HK2.out; have := HJ76.out; have := HJ78.out; first | omega | exact ut _⟩, ⟨HO_0.out⟩, ⟨HK.out⟩, ⟨HB.out⟩⟩
               case rest =>
                clear HC84
                try clear c6
                try clear c6b0
                try clear c6b1
                try clear c33
                try clear c33b0
                try clear c33b1
                try clear c62
                try clear c62b0
                obtain ⟨kq, x199_83, rfl, HA, HJ83, HO_0, HK, HB⟩ := hcut
                cases kq with
                | zero => exact absurd HA.out (by simp [api_Entry_123.j8])
                | succ kj83 =>
                 have H := HA.out; clear HA; simp only [api_Entry_123.j8] at H
                 by_cases c86 : x199_83 = true
                 · subst c86; (have H1 : ((api_Entry_123.f kj83 x0_78 a1 x20_2 (wrap64 ((IntKind.u64.wrap (wrap64 (a1 + a3))) / 2))).bind fun t119 => (if (wrap64 ((IntKind.u64.wrap (wrap64 (a1 + a3))) / 2)) < (wrap64 ((wrap64 ((wrap64 ((IntKind.u64.wrap (wrap64 (a1 + a3))) / 2)) + a2)) - x20_2)) then (if (wrap64 ((wrap64 ((wrap64 ((IntKind.u64.wrap (wrap64 (a1 + a3))) / 2)) + a2)) - x20_2)) < a3 then ((api_Entry_123.f kj83 t119 (wrap64 ((IntKind.u64.wrap (wrap64 (a1 + a3))) / 2)) (wrap64 ((wrap64 ((wrap64 ((IntKind.u64.wrap (wrap64 (a1 + a3))) / 2)) + a2)) - x20_2)) a3).bind fun t120 => (some t120)) else (some t119)) else (some t119))) = some r := by rw [if_pos rfl] at H; exact H); clear H; have H := H1; clear H1; replace H := Option.bind_eq_some_iff.mp H; obtain ⟨t119, A870, H⟩ := H; replace H : (if (wrap64 ((IntKind.u64.wrap (wrap64 (a1 + a3))) / 2)) < (wrap64 ((wrap64 ((wrap64 ((IntKind.u64.wrap (wrap64 (a1 + a3))) / 2)) + a2)) - x20_2)) then (if (wrap64 ((wrap64 ((wrap64 ((IntKind.u64.wrap (wrap64 (a1 + a3))) / 2)) + a2)) - x20_2)) < a3 then ((api_Entry_123.f kj83 t119 (wrap64 ((IntKind.u64.wrap (wrap64 (a1 + a3))) / 2)) (wrap64 ((wrap64 ((wrap64 ((IntKind.u64.wrap (wrap64 (a1 + a3))) / 2)) + a2)) - x20_2)) a3).bind fun t120 => (some t120)) else (some t119)) else (some t119)) = some r := H; have A87 := za A870; clear A870
                   by_cases c88 : (wrap64 ((IntKind.u64.wrap (wrap64 (a1 + a3))) / 2)) < (wrap64 ((wrap64 ((wrap64 ((IntKind.u64.wrap (wrap64 (a1 + a3))) / 2)) + a2)) - x20_2))
                   · rw [if_pos c88] at H; have c88b0 : decide ((wrap64 ((IntKind.u64.wrap (wrap64 (a1 + a3))) / 2)) < (wrap64 ((wrap64 ((wrap64 ((IntKind.u64.wrap (wrap64 (a1 + a3))) / 2)) + a2)) - x20_2))) = true := decide_eq_true c88; clear c88
                     by_cases c89 : (wrap64 ((wrap64 ((wrap64 ((IntKind.u64.wrap (wrap64 (a1 + a3))) / 2)) + a2)) - x20_2)) < a3
                     · rw [if_pos c89] at H; have c89b0 : decide ((wrap64 ((wrap64 ((wrap64 ((IntKind.u64.wrap (wrap64 (a1 + a3))) / 2)) + a2)) - x20_2)) < a3) = true := decide_eq_true c89; clear c89; replace H := Option.bind_eq_some_iff.mp H; obtain ⟨t120, A900, H⟩ := H; replace H : (some t120) = some r := H; have A90 := za A900; clear A900
                       as_aux_lemma =>
                        obtain rfl := Option.some.inj H; obtain ⟨Ao91, co91, eo91⟩ := vw HO_0.out; subst eo91
                        go_wp2_with (first | ((with_reducible refine ux (f := 123) rfl ?_); refine vx (some 205) rfl rfl Tryz.func123 (by kernel_rfl) rfl #[.slice Ao91 x0_78.length co91, .int .i64 a1, .int .i64 x20_2, .int .i64 (wrap64 ((IntKind.u64.wrap (wrap64 (a1 + a3))) / 2)), .func (.func 85) #[] #[]] rfl (by (try simp only [ug, ul, uo]); first | done | rfl | (simp only [uk, uj]; rfl)) ?_; (with_reducible refine (ih kj83 (by have := HJ59.out; have := HK2.out; have := HJ76.out; have := HJ78.out; have := HJ83.out; omega) (fun k_ => some k_ = (.slice Ao91 x0_78.length co91 : Value).ownBlock) (.slice Ao91 x0_78.length co91) x0_78 a1 x20_2 (wrap64 ((IntKind.u64.wrap (wrap64 (a1 + a3))) / 2))  t119 w0 _ ?side1 ?side2 A87.out).mono ?_); (case side1 => repeat (first | (with_reducible first | exact HB.out | apply uv | apply uw | apply us) | exact HB.out)); (case side2 => exact Kd.RC_tight rfl HO_0.out); rintro e w92 ⟨rfl, hy0, hb, hkp⟩; refine ⟨_, rfl, ?_⟩; have n0_ := za (Kd.RC_reok rfl hy0 (fun k_ e_ => HO_0.out.1 k_ e_)); have n1_ := za (Kept.then_ (S := (fun k_ => P0_ k_)) HK.out hkp (fun k_ hs_ => (fun e_ => (HO_0.out.1 k_ e_.symm)) hs_)); have n2_ := za (hb); clear HO_0; clear HK; clear HB; have HO_0 := n0_; have HK := n1_; have HB := n2_; clear n0_ n1_ n2_; (try clear hb); (try clear hkp); (try clear hy0)) | ((with_reducible refine ux (f := 123) rfl ?_); refine vx (some 219) rfl rfl Tryz.func123 (by kernel_rfl) rfl #[.slice Ao91 x0_78.length co91, .int .i64 (wrap64 ((IntKind.u64.wrap (wrap64 (a1 + a3))) / 2)), .int .i64 (wrap64 ((wrap64 ((wrap64 ((IntKind.u64.wrap (wrap64 (a1 + a3))) / 2)) + a2)) - x20_2)), .int .i64 a3, .func (.func 85) #[] #[]] rfl (by (try simp only [ug, ul, uo]); first | done | rfl | (simp only [uk, uj]; rfl)) ?_; (with_reducible refine (ih kj83 (by have := HJ59.out; have := HK2.out; have := HJ76.out; have := HJ78.out; have := HJ83.out; omega) (fun k_ => some k_ = (.slice Ao91 x0_78.length co91 : Value).ownBlock) (.slice Ao91 x0_78.length co91) t119 (wrap64 ((IntKind.u64.wrap (wrap64 (a1 + a3))) / 2)) (wrap64 ((wrap64 ((wrap64 ((IntKind.u64.wrap (wrap64 (a1 + a3))) / 2)) + a2)) - x20_2)) a3  t120 w0 _ ?side1 ?side2 A90.out).mono ?_); (case side1 => repeat (first | (with_reducible first | exact HB.out | apply uv | apply uw | apply us) | exact HB.out)); (case side2 => exact Kd.RC_tight rfl HO_0.out); rintro e w93 ⟨rfl, hy0, hb, hkp⟩; refine ⟨_, rfl, ?_⟩; have n0_ := za (Kd.RC_reok rfl hy0 (fun k_ e_ => HO_0.out.1 k_ e_)); have n1_ := za (Kept.then_ (S := (fun k_ => P0_ k_)) HK.out hkp (fun k_ hs_ => (fun e_ => (HO_0.out.1 k_ e_.symm)) hs_)); have n2_ := za (hb); clear HO_0; clear HK; clear HB; have HO_0 := n0_; have HK := n1_; have HB := n2_; clear n0_ n1_ n2_; (try clear hb); (try clear hkp); (try clear hy0)))
                        first | go_end0 | ((try simp only [Exit.inBlock, Exit.then]); refine bodyPost_ret (results_none rfl _ _ _) rfl ?_)
                        exact ⟨rfl, HO_0.out, HB.out, HK.out⟩
                     · rw [if_neg c89] at H; have c89b0 : decide ((wrap64 ((wrap64 ((wrap64 ((IntKind.u64.wrap (wrap64 (a1 + a3))) / 2)) + a2)) - x20_2)) < a3) = false := decide_eq_false c89; clear c89
                       as_aux_lemma =>
                        obtain rfl := Option.some.inj H; obtain ⟨Ao94, co94, eo94⟩ := vw HO_0.out; subst eo94
                        go_wp2_with (first | ((with_reducible refine ux (f := 123) rfl ?_); refine vx (some 205) rfl rfl Tryz.func123 (by kernel_rfl) rfl #[.slice Ao94 x0_78.length co94, .int .i64 a1, .int .i64 x20_2, .int .i64 (wrap64 ((IntKind.u64.wrap (wrap64 (a1 + a3))) / 2)), .func (.func 85) #[] #[]] rfl (by (try simp only [ug, ul, uo]); first | done | rfl | (simp only [uk, uj]; rfl)) ?_; (with_reducible refine (ih kj83 (by have := HJ59.out; have := HK2.out; have := HJ76.out; have := HJ78.out; have := HJ83.out; omega) (fun k_ => some k_ = (.slice Ao94 x0_78.length co94 : Value).ownBlock) (.slice Ao94 x0_78.length co94) x0_78 a1 x20_2 (wrap64 ((IntKind.u64.wrap (wrap64 (a1 + a3))) / 2))  t119 w0 _ ?side1 ?side2 A87.out).mono ?_); (case side1 => repeat (first | (with_reducible first | exact HB.out | apply uv | apply uw | apply us) | exact HB.out)); (case side2 => exact Kd.RC_tight rfl HO_0.out); rintro e w95 ⟨rfl, hy0, hb, hkp⟩; refine ⟨_, rfl, ?_⟩; have n0_ := za (Kd.RC_reok rfl hy0 (fun k_ e_ => HO_0.out.1 k_ e_)); have n1_ := za (Kept.then_ (S := (fun k_ => P0_ k_)) HK.out hkp (fun k_ hs_ => (fun e_ => (HO_0.out.1 k_ e_.symm)) hs_)); have n2_ := za (hb); clear HO_0; clear HK; clear HB; have HO_0 := n0_; have HK := n1_; have HB := n2_; clear n0_ n1_ n2_; (try clear hb); (try clear hkp); (try clear hy0)))
                        first | go_end0 | ((try simp only [Exit.inBlock, Exit.then]); refine bodyPost_ret (results_none rfl _ _ _) rfl ?_)
                        exact ⟨rfl, HO_0.out, HB.out, HK.out⟩
                   · rw [if_neg c88] at H; have c88b0 : decide ((wrap64 ((IntKind.u64.wrap (wrap64 (a1 + a3))) / 2)) < (wrap64 ((wrap64 ((wrap64 ((IntKind.u64.wrap (wrap64 (a1 + a3))) / 2)) + a2)) - x20_2))) = false := decide_eq_false c88; clear c88
                     as_aux_lemma =>
                      obtain rfl := Option.some.inj H; obtain ⟨Ao96, co96, eo96⟩ := vw HO_0.out; subst eo96
                      go_wp2_with (first | ((with_reducible refine ux (f := 123) rfl ?_); refine vx (some 205) rfl rfl Tryz.func123 (by kernel_rfl) rfl #[.slice Ao96 x0_78.length co96, .int .i64 a1, .int .i64 x20_2, .int .i64 (wrap64 ((IntKind.u64.wrap (wrap64 (a1 + a3))) / 2)), .func (.func 85) #[] #[]] rfl (by (try simp only [ug, ul, uo]); first | done | rfl | (simp only [uk, uj]; rfl)) ?_; (with_reducible refine (ih kj83 (by have := HJ59.out; have := HK2.out; have := HJ76.out; have := HJ78.out; have := HJ83.out; omega) (fun k_ => some k_ = (.slice Ao96 x0_78.length co96 : Value).ownBlock) (.slice Ao96 x0_78.length co96) x0_78 a1 x20_2 (wrap64 ((IntKind.u64.wrap (wrap64 (a1 + a3))) / 2))  t119 w0 _ ?side1 ?side2 A87.out).mono ?_); (case side1 => repeat (first | (with_reducible first | exact HB.out | apply uv | apply uw | apply us) | exact HB.out)); (case side2 => exact Kd.RC_tight rfl HO_0.out); rintro e w97 ⟨rfl, hy0, hb, hkp⟩; refine ⟨_, rfl, ?_⟩; have n0_ := za (Kd.RC_reok rfl hy0 (fun k_ e_ => HO_0.out.1 k_ e_)); have n1_ := za (Kept.then_ (S := (fun k_ => P0_ k_)) HK.out hkp (fun k_ hs_ => (fun e_ => (HO_0.out.1 k_ e_.symm)) hs_)); have n2_ := za (hb); clear HO_0; clear HK; clear HB; have HO_0 := n0_; have HK := n1_; have HB := n2_; clear n0_ n1_ n2_; (try clear hb); (try clear hkp); (try clear hy0)))
                      first | go_end0 | ((try simp only [Exit.inBlock, Exit.then]); refine bodyPost_ret (results_none rfl _ _ _) rfl ?_)
                      exact ⟨rfl, HO_0.out, HB.out, HK.out⟩
                 · replace c86 := Bool.eq_false_iff.mpr c86; subst c86; (have H1 : (if (wrap64 ((IntKind.u64.wrap (wrap64 (a1 + a3))) / 2)) < (wrap64 ((wrap64 ((wrap64 ((IntKind.u64.wrap (wrap64 (a1 + a3))) / 2)) + a2)) - x20_2)) then (if (wrap64 ((wrap64 ((wrap64 ((IntKind.u64.wrap (wrap64 (a1 + a3))) / 2)) + a2)) - x20_2)) < a3 then ((api_Entry_123.f kj83 x0_78 (wrap64 ((IntKind.u64.wrap (wrap64 (a1 + a3))) / 2)) (wrap64 ((wrap64 ((wrap64 ((IntKind.u64.wrap (wrap64 (a1 + a3))) / 2)) + a2)) - x20_2)) a3).bind fun t121 => (some t121)) else (some x0_78)) else (some x0_78)) = some r := by rw [if_neg (show ¬ (false = true) by decide)] at H; exact H); clear H; have H := H1; clear H1
                   by_cases c98 : (wrap64 ((IntKind.u64.wrap (wrap64 (a1 + a3))) / 2)) < (wrap64 ((wrap64 ((wrap64 ((IntKind.u64.wrap (wrap64 (a1 + a3))) / 2)) + a2)) - x20_2))
                   · rw [if_pos c98] at H; have c98b0 : decide ((wrap64 ((IntKind.u64.wrap (wrap64 (a1 + a3))) / 2)) < (wrap64 ((wrap64 ((wrap64 ((IntKind.u64.wrap (wrap64 (a1 + a3))) / 2)) + a2)) - x20_2))) = true := decide_eq_true c98; clear c98
                     by_cases c99 : (wrap64 ((wrap64 ((wrap64 ((IntKind.u64.wrap (wrap64 (a1 + a3))) / 2)) + a2)) - x20_2)) < a3
                     · rw [if_pos c99] at H; have c99b0 : decide ((wrap64 ((wrap64 ((wrap64 ((IntKind.u64.wrap (wrap64 (a1 + a3))) / 2)) + a2)) - x20_2)) < a3) = true := decide_eq_true c99; clear c99; replace H := Option.bind_eq_some_iff.mp H; obtain ⟨t121, A1000, H⟩ := H; replace H : (some t121) = some r := H; have A100 := za A1000; clear A1000
                       as_aux_lemma =>
                        obtain rfl := Option.some.inj H; obtain ⟨Ao101, co101, eo101⟩ := vw HO_0.out; subst eo101
                        go_wp2_with (first | ((with_reducible refine ux (f := 123) rfl ?_); refine vx (some 219) rfl rfl Tryz.func123 (by kernel_rfl) rfl #[.slice Ao101 x0_78.length co101, .int .i64 (wrap64 ((IntKind.u64.wrap (wrap64 (a1 + a3))) / 2)), .int .i64 (wrap64 ((wrap64 ((wrap64 ((IntKind.u64.wrap (wrap64 (a1 + a3))) / 2)) + a2)) - x20_2)), .int .i64 a3, .func (.func 85) #[] #[]] rfl (by (try simp only [ug, ul, uo]); first | done | rfl | (simp only [uk, uj]; rfl)) ?_; (with_reducible refine (ih kj83 (by have := HJ59.out; have := HK2.out; have := HJ76.out; have := HJ78.out; have := HJ83.out; omega) (fun k_ => some k_ = (.slice Ao101 x0_78.length co101 : Value).ownBlock) (.slice Ao101 x0_78.length co101) x0_78 (wrap64 ((IntKind.u64.wrap (wrap64 (a1 + a3))) / 2)) (wrap64 ((wrap64 ((wrap64 ((IntKind.u64.wrap (wrap64 (a1 + a3))) / 2)) + a2)) - x20_2)) a3  t121 w0 _ ?side1 ?side2 A100.out).mono ?_); (case side1 => repeat (first | (with_reducible first | exact HB.out | apply uv | apply uw | apply us) | exact HB.out)); (case side2 => exact Kd.RC_tight rfl HO_0.out); rintro e w102 ⟨rfl, hy0, hb, hkp⟩; refine ⟨_, rfl, ?_⟩; have n0_ := za (Kd.RC_reok rfl hy0 (fun k_ e_ => HO_0.out.1 k_ e_)); have n1_ := za (Kept.then_ (S := (fun k_ => P0_ k_)) HK.out hkp (fun k_ hs_ => (fun e_ => (HO_0.out.1 k_ e_.symm)) hs_)); have n2_ := za (hb); clear HO_0; clear HK; clear HB; have HO_0 := n0_; have HK := n1_; have HB := n2_; clear n0_ n1_ n2_; (try clear hb); (try clear hkp); (try clear hy0)))
                        first | go_end0 | ((try simp only [Exit.inBlock, Exit.then]); refine bodyPost_ret (results_none rfl _ _ _) rfl ?_)
                        exact ⟨rfl, HO_0.out, HB.out, HK.out⟩
                     · rw [if_neg c99] at H; have c99b0 : decide ((wrap64 ((wrap64 ((wrap64 ((IntKind.u64.wrap (wrap64 (a1 + a3))) / 2)) + a2)) - x20_2)) < a3) = false := decide_eq_false c99; clear c99
                       as_aux_lemma =>
                        obtain rfl := Option.some.inj H
                        go_wp2
                        first | go_end0 | ((try simp only [Exit.inBlock, Exit.then]); refine bodyPost_ret (results_none rfl _ _ _) rfl ?_)
                        exact ⟨rfl, HO_0.out, HB.out, HK.out⟩
                   · rw [if_neg c98] at H; have c98b0 : decide ((wrap64 ((IntKind.u64.wrap (wrap64 (a1 + a3))) / 2)) < (wrap64 ((wrap64 ((wrap64 ((IntKind.u64.wrap (wrap64 (a1 + a3))) / 2)) + a2)) - x20_2))) = false := decide_eq_false c98; clear c98
                     as_aux_lemma =>
                      obtain rfl := Option.some.inj H
                      go_wp2
                      first | go_end0 | ((try simp only [Exit.inBlock, Exit.then]); refine bodyPost_ret (results_none rfl _ _ _) rfl ?_)
                      exact ⟨rfl, HO_0.out, HB.out, HK.out⟩
end Go.Proofs.YthghkglkifeagaaGreat.V
