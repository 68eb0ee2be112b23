-- a text of this work, without what this claim doesn't use (wip/shake.py)
import Derived.Test.YtccppdmangbdoaaNVE31
import Derived.Test.YtccppdmangbdoaaNVPcmp
import Derived.Test.YtccppdmangbdoaaNVPentry1
import Derived.Test.YtccppdmangbdoaaNVP5T
import Derived.Test.YtccppdmangbdoaaNVPblock
import Derived.Test.YtccppdmangbdoaaNVPblockb
import Derived.Test.YtccppdmangbdoaaNVCall
import Derived.Laws.CopyRow
import Derived.Laws.CopyOwn
import Derived.Laws.Externs
import Derived.Lib.Overlaps
import Derived.Lib.AppendZerosOnto
import Derived.Shelf.Spec.SlicesInsert
import Derived.Laws.Bits64b
section
namespace Go.Proofs.Ytccppdmangbdoaa.V
open Go.RowKit Go.Proofs.YtccppdmangbdoaaW.PrintWords Go.Proofs.YtccppdmangbdoaaW.PrintLast Go.Proofs.YtccppdmangbdoaaW.PrintMore
attribute [local go_sem] max2_int min2_int max_two min_two max_three min_three max_four min_four
set_option linter.unusedVariables false
set_option linter.unusedSimpArgs false
def vergerref5_Ok.f (k : Nat) (a0_0 : Int) (l0_1 : List (S31)) : Option (Bool) := if a0_0 < 0 then (some false) else (if a0_0 > 62 then (some false) else ((vergerref5_Sorted.f k l0_1).bind fun t102 => (if t102 = true then (if 0 ≤ a0_0 then (if (l0_1.length : Int) ≤ (shl .i64 1 a0_0) then (if a0_0 = 0 then (some true) else (some (decide ((l0_1.length : Int) > (wrap64 (Int.tdiv (shl .i64 1 a0_0) 2)))))) else (some false)) else (none)) else (some false))))
set_option maxHeartbeats 8000000 in
set_option maxRecDepth 100000 in
theorem vergerref5_Ok.calls (k : Nat) (a0_0 : Int) (A0_1 : Option Addr) (c0_1 : Nat) (l0_1 : List (S31)) (r : Bool) (w : World) (hr0_1 : Kd.C k31 w A0_1 l0_1.length l0_1) (hc0_1 : l0_1.length ≤ c0_1) (h : vergerref5_Ok.f k a0_0 l0_1 = some r) :
 Calls Try.prog 17 #[.agg #[.int .i64 a0_0, .slice A0_1 l0_1.length c0_1]] w fun e w' => e = .returned (.bool r) ∧ Below w.heap.size w w' := by
 have hu28 := Try.underlying28; have HR0_1 := Aside0.mk hr0_1; have HC0_1 := Aside0.mk hc0_1; clear hr0_1 hc0_1; have HB := Aside0.mk (Below.refl w.heap.size w); have H : (if a0_0 < 0 then (some false) else (if a0_0 > 62 then (some false) else ((vergerref5_Sorted.f k l0_1).bind fun t102 => (if t102 = true then (if 0 ≤ a0_0 then (if (l0_1.length : Int) ≤ (shl .i64 1 a0_0) then (if a0_0 = 0 then (some true) else (some (decide ((l0_1.length : Int) > (wrap64 (Int.tdiv (shl .i64 1 a0_0) 2)))))) else (some false)) else (none)) else (some false))))) = some r := h; clear h
 by_cases c2 : a0_0 < 0
 · rw [if_pos c2] at H; have c2b0 : decide (a0_0 < 0) = true := decide_eq_true c2; clear c2; obtain rfl := Option.some.inj H; go_enter Try.func17, Try.ntmps17
   go_wp2_with (first | ((with_reducible refine vz (N := 1) rfl ?_); (try (refine xt (by rfl) ?_; dsimp only)); refine vy ?hg (N := 1) ?hd (cs := #[.int .i64 a0_0, .slice A0_1 l0_1.length c0_1]) (t := 28) ?hr ?_; (case hd => rfl); (case hg => rfl); (case hr => first | (go_simp; done) | (go_simp; rfl)); intro gb101 hg w3 hbox hb; have n0_ := Aside0.mk (uw (by repeat (first | (with_reducible first | exact HB.out | apply uf | apply ud | apply ue) | exact HB.out)) hb); have n1_ := Aside0.mk (hbox); have n2_ := Aside0.mk ((by rw [hg]; exact (uo (by repeat (first | (with_reducible first | exact HB.out | apply uf | apply ud | apply ue) | exact HB.out))) : w.heap.size ≤ gb101)); have n3_ := Aside0.mk ((by rw [hg]; exact (uo (by repeat (first | (with_reducible first | exact HB.out | apply uf | apply ud | apply ue) | exact HB.out))) : w.heap.size ≤ gb101)); clear HB; have HB := n0_; have BK101 := n1_; have GW101 := n2_; have GE101 := n3_; clear n0_ n1_ n2_ n3_; clear hb hbox hg; have hcz4_0 : w3.cell? ⟨gb101, 0, none⟩ = some (.int .i64 a0_0) := (ul BK101.out 0).trans rfl; have hcz4_1 : w3.cell? ⟨gb101, 1, none⟩ = some (.slice A0_1 l0_1.length c0_1) := (ul BK101.out 1).trans rfl; have hfz4_0 := uu BK101.out 0; have hfz4_1 := uu BK101.out 1))
   repeat (go_quiet (first | ((with_reducible refine vz (N := 1) rfl ?_); (try (refine xt (by rfl) ?_; dsimp only)); refine vy ?hg (N := 1) ?hd (cs := #[.int .i64 a0_0, .slice A0_1 l0_1.length c0_1]) (t := 28) ?hr ?_; (case hd => rfl); (case hg => rfl); (case hr => first | (go_simp; done) | (go_simp; rfl)); intro gb101 hg w3 hbox hb; have n0_ := Aside0.mk (uw (by repeat (first | (with_reducible first | exact HB.out | apply uf | apply ud | apply ue) | exact HB.out)) hb); have n1_ := Aside0.mk (hbox); have n2_ := Aside0.mk ((by rw [hg]; exact (uo (by repeat (first | (with_reducible first | exact HB.out | apply uf | apply ud | apply ue) | exact HB.out))) : w.heap.size ≤ gb101)); have n3_ := Aside0.mk ((by rw [hg]; exact (uo (by repeat (first | (with_reducible first | exact HB.out | apply uf | apply ud | apply ue) | exact HB.out))) : w.heap.size ≤ gb101)); clear HB; have HB := n0_; have BK101 := n1_; have GW101 := n2_; have GE101 := n3_; clear n0_ n1_ n2_ n3_; clear hb hbox hg; have hcz4_0 : w3.cell? ⟨gb101, 0, none⟩ = some (.int .i64 a0_0) := (ul BK101.out 0).trans rfl; have hcz4_1 : w3.cell? ⟨gb101, 1, none⟩ = some (.slice A0_1 l0_1.length c0_1) := (ul BK101.out 1).trans rfl; have hfz4_0 := uu BK101.out 0; have hfz4_1 := uu BK101.out 1)); try go_wp2_with (first | ((with_reducible refine vz (N := 1) rfl ?_); (try (refine xt (by rfl) ?_; dsimp only)); refine vy ?hg (N := 1) ?hd (cs := #[.int .i64 a0_0, .slice A0_1 l0_1.length c0_1]) (t := 28) ?hr ?_; (case hd => rfl); (case hg => rfl); (case hr => first | (go_simp; done) | (go_simp; rfl)); intro gb101 hg w3 hbox hb; have n0_ := Aside0.mk (uw (by repeat (first | (with_reducible first | exact HB.out | apply uf | apply ud | apply ue) | exact HB.out)) hb); have n1_ := Aside0.mk (hbox); have n2_ := Aside0.mk ((by rw [hg]; exact (uo (by repeat (first | (with_reducible first | exact HB.out | apply uf | apply ud | apply ue) | exact HB.out))) : w.heap.size ≤ gb101)); have n3_ := Aside0.mk ((by rw [hg]; exact (uo (by repeat (first | (with_reducible first | exact HB.out | apply uf | apply ud | apply ue) | exact HB.out))) : w.heap.size ≤ gb101)); clear HB; have HB := n0_; have BK101 := n1_; have GW101 := n2_; have GE101 := n3_; clear n0_ n1_ n2_ n3_; clear hb hbox hg; have hcz4_0 : w3.cell? ⟨gb101, 0, none⟩ = some (.int .i64 a0_0) := (ul BK101.out 0).trans rfl; have hcz4_1 : w3.cell? ⟨gb101, 1, none⟩ = some (.slice A0_1 l0_1.length c0_1) := (ul BK101.out 1).trans rfl; have hfz4_0 := uu BK101.out 0; have hfz4_1 := uu BK101.out 1)))
   go_ret
   exact ⟨by first | rfl | (simp [errW_none, errW_some] <;> rfl) | (simp [*, errW_none, errW_some] <;> rfl), by repeat (first | (with_reducible first | exact HB.out | apply uf | apply ud | apply ue | refine ui ?_ GE101.out) | exact HB.out)⟩
 · rw [if_neg c2] at H; have c2b0 : decide (a0_0 < 0) = false := decide_eq_false c2; clear c2
   by_cases c5 : a0_0 > 62
   · rw [if_pos c5] at H; have c5b0 : decide (62 < a0_0) = true := decide_eq_true c5; clear c5; obtain rfl := Option.some.inj H; go_enter Try.func17, Try.ntmps17
     go_wp2_with (first | ((with_reducible refine vz (N := 1) rfl ?_); (try (refine xt (by rfl) ?_; dsimp only)); refine vy ?hg (N := 1) ?hd (cs := #[.int .i64 a0_0, .slice A0_1 l0_1.length c0_1]) (t := 28) ?hr ?_; (case hd => rfl); (case hg => rfl); (case hr => first | (go_simp; done) | (go_simp; rfl)); intro gb101 hg w6 hbox hb; have n0_ := Aside0.mk (uw (by repeat (first | (with_reducible first | exact HB.out | apply uf | apply ud | apply ue) | exact HB.out)) hb); have n1_ := Aside0.mk (hbox); have n2_ := Aside0.mk ((by rw [hg]; exact (uo (by repeat (first | (with_reducible first | exact HB.out | apply uf | apply ud | apply ue) | exact HB.out))) : w.heap.size ≤ gb101)); have n3_ := Aside0.mk ((by rw [hg]; exact (uo (by repeat (first | (with_reducible first | exact HB.out | apply uf | apply ud | apply ue) | exact HB.out))) : w.heap.size ≤ gb101)); clear HB; have HB := n0_; have BK101 := n1_; have GW101 := n2_; have GE101 := n3_; clear n0_ n1_ n2_ n3_; clear hb hbox hg; have hcz7_0 : w6.cell? ⟨gb101, 0, none⟩ = some (.int .i64 a0_0) := (ul BK101.out 0).trans rfl; have hcz7_1 : w6.cell? ⟨gb101, 1, none⟩ = some (.slice A0_1 l0_1.length c0_1) := (ul BK101.out 1).trans rfl; have hfz7_0 := uu BK101.out 0; have hfz7_1 := uu BK101.out 1))
     repeat (go_quiet (first | ((with_reducible refine vz (N := 1) rfl ?_); (try (refine xt (by rfl) ?_; dsimp only)); refine vy ?hg (N := 1) ?hd (cs := #[.int .i64 a0_0, .slice A0_1 l0_1.length c0_1]) (t := 28) ?hr ?_; (case hd => rfl); (case hg => rfl); (case hr => first | (go_simp; done) | (go_simp; rfl)); intro gb101 hg w6 hbox hb; have n0_ := Aside0.mk (uw (by repeat (first | (with_reducible first | exact HB.out | apply uf | apply ud | apply ue) | exact HB.out)) hb); have n1_ := Aside0.mk (hbox); have n2_ := Aside0.mk ((by rw [hg]; exact (uo (by repeat (first | (with_reducible first | exact HB.out | apply uf | apply ud | apply ue) | exact HB.out))) : w.heap.size ≤ gb101)); have n3_ := Aside0.mk ((by rw [hg]; exact (uo (by repeat (first | (with_reducible first | exact HB.out | apply uf | apply ud | apply ue) | exact HB.out))) : w.heap.size ≤ gb101)); clear HB; have HB := n0_; have BK101 := n1_; have GW101 := n2_; have GE101 := n3_; clear n0_ n1_ n2_ n3_; clear hb hbox hg; have hcz7_0 : w6.cell? ⟨gb101, 0, none⟩ = some (.int .i64 a0_0) := (ul BK101.out 0).trans rfl; have hcz7_1 : w6.cell? ⟨gb101, 1, none⟩ = some (.slice A0_1 l0_1.length c0_1) := (ul BK101.out 1).trans rfl; have hfz7_0 := uu BK101.out 0; have hfz7_1 := uu BK101.out 1)); try go_wp2_with (first | ((with_reducible refine vz (N := 1) rfl ?_); (try (refine xt (by rfl) ?_; dsimp only)); refine vy ?hg (N := 1) ?hd (cs := #[.int .i64 a0_0, .slice A0_1 l0_1.length c0_1]) (t := 28) ?hr ?_; (case hd => rfl); (case hg => rfl); (case hr => first | (go_simp; done) | (go_simp; rfl)); intro gb101 hg w6 hbox hb; have n0_ := Aside0.mk (uw (by repeat (first | (with_reducible first | exact HB.out | apply uf | apply ud | apply ue) | exact HB.out)) hb); have n1_ := Aside0.mk (hbox); have n2_ := Aside0.mk ((by rw [hg]; exact (uo (by repeat (first | (with_reducible first | exact HB.out | apply uf | apply ud | apply ue) | exact HB.out))) : w.heap.size ≤ gb101)); have n3_ := Aside0.mk ((by rw [hg]; exact (uo (by repeat (first | (with_reducible first | exact HB.out | apply uf | apply ud | apply ue) | exact HB.out))) : w.heap.size ≤ gb101)); clear HB; have HB := n0_; have BK101 := n1_; have GW101 := n2_; have GE101 := n3_; clear n0_ n1_ n2_ n3_; clear hb hbox hg; have hcz7_0 : w6.cell? ⟨gb101, 0, none⟩ = some (.int .i64 a0_0) := (ul BK101.out 0).trans rfl; have hcz7_1 : w6.cell? ⟨gb101, 1, none⟩ = some (.slice A0_1 l0_1.length c0_1) := (ul BK101.out 1).trans rfl; have hfz7_0 := uu BK101.out 0; have hfz7_1 := uu BK101.out 1)))
     go_ret
     exact ⟨by first | rfl | (simp [errW_none, errW_some] <;> rfl) | (simp [*, errW_none, errW_some] <;> rfl), by repeat (first | (with_reducible first | exact HB.out | apply uf | apply ud | apply ue | refine ui ?_ GE101.out) | exact HB.out)⟩
   · rw [if_neg c5] at H; have c5b0 : decide (62 < a0_0) = false := decide_eq_false c5; clear c5; replace H := Option.bind_eq_some_iff.mp H; obtain ⟨t102, A80, H⟩ := H; replace H : (if t102 = true then (if 0 ≤ a0_0 then (if (l0_1.length : Int) ≤ (shl .i64 1 a0_0) then (if a0_0 = 0 then (some true) else (some (decide ((l0_1.length : Int) > (wrap64 (Int.tdiv (shl .i64 1 a0_0) 2)))))) else (some false)) else (none)) else (some false)) = some r := H; have A8 := Aside0.mk A80; clear A80
     by_cases c9 : t102 = true
     · subst c9; (have H1 : (if 0 ≤ a0_0 then (if (l0_1.length : Int) ≤ (shl .i64 1 a0_0) then (if a0_0 = 0 then (some true) else (some (decide ((l0_1.length : Int) > (wrap64 (Int.tdiv (shl .i64 1 a0_0) 2)))))) else (some false)) else (none)) = some r := by rw [if_pos rfl] at H; exact H); clear H; have H := H1; clear H1
       by_cases c10 : 0 ≤ a0_0
       · rw [if_pos c10] at H; have c10b0 := eq_true c10; have c10b1 : decide (0 ≤ a0_0) = true := decide_eq_true c10; clear c10; obtain ⟨ji11, hji11⟩ : ∃ j_ : Int, (shl .i64 1 a0_0) = j_ := ⟨_, rfl⟩; (replace H : (if (l0_1.length : Int) ≤ (ji11) then (if a0_0 = 0 then (some true) else (some (decide ((l0_1.length : Int) > (wrap64 (Int.tdiv (ji11) 2)))))) else (some false)) = some r := by first | (rw [hji11] at H; exact H) | (simp only [hji11] at H ⊢; exact H)); (try rw [hji11] at A8); have hji11_ : (IntKind.i64.wrap (1 * 2 ^ min a0_0.toNat 64)) = ji11 := hji11; have hji11z : a0_0 ≤ 64 → (IntKind.i64.wrap (1 * 2 ^ a0_0.toNat)) = ji11 := shl_small hji11; (have hji11u : (IntKind.i64.wrap (2 ^ min a0_0.toNat 64)) = ji11 := by have h_ := hji11_; rw [Int.one_mul] at h_; exact h_); (have hji11v : a0_0 ≤ 64 → (IntKind.i64.wrap (2 ^ a0_0.toNat)) = ji11 := fun hle_ => by have h_ := hji11z hle_; rw [Int.one_mul] at h_; exact h_); have hji11y : (wrap64 (1 * 2 ^ min a0_0.toNat 64)) = ji11 := (uh _).symm.trans hji11_; (have hji11x : a0_0 ≤ 64 → (wrap64 (1 * 2 ^ a0_0.toNat)) = ji11 := fun h_ => (uh _).symm.trans (hji11z h_)); (have c64 : a0_0 ≤ 64 := by have := of_decide_eq_false c5b0; omega); have c64b := eq_true c64; have hs0 := hji11z c64; have hs1 := hji11v c64; have hs2 := hji11x c64; clear hji11z hji11v hji11x
         by_cases c12 : (l0_1.length : Int) ≤ (ji11)
         · rw [if_pos c12] at H; have c12b0 : decide ((l0_1.length : Int) ≤ (ji11)) = true := decide_eq_true c12; clear c12
           by_cases c13 : a0_0 = 0
           · rw [if_pos c13] at H; have c13b0 : (a0_0 == 0) = true := beq_iff_eq.mpr c13; have c13b1 : (a0_0 != 0) = false := bne_eq_false_iff_eq.mpr c13; clear c13; obtain rfl := Option.some.inj H; go_enter Try.func17, Try.ntmps17
             go_wp2_with (first | ((with_reducible refine vz (N := 1) rfl ?_); (try (refine xt (by rfl) ?_; dsimp only)); refine vy ?hg (N := 1) ?hd (cs := #[.int .i64 a0_0, .slice A0_1 l0_1.length c0_1]) (t := 28) ?hr ?_; (case hd => rfl); (case hg => rfl); (case hr => first | (go_simp; done) | (go_simp; rfl)); intro gb101 hg w14 hbox hb; have n0_ := Aside0.mk (uw (by repeat (first | (with_reducible first | exact HB.out | apply uf | apply ud | apply ue) | exact HB.out)) hb); have n1_ := Aside0.mk (hbox); have n2_ := Aside0.mk ((by rw [hg]; exact (uo (by repeat (first | (with_reducible first | exact HB.out | apply uf | apply ud | apply ue) | exact HB.out))) : w.heap.size ≤ gb101)); have n3_ := Aside0.mk ((by rw [hg]; exact (uo (by repeat (first | (with_reducible first | exact HB.out | apply uf | apply ud | apply ue) | exact HB.out))) : w.heap.size ≤ gb101)); clear HB; have HB := n0_; have BK101 := n1_; have GW101 := n2_; have GE101 := n3_; clear n0_ n1_ n2_ n3_; clear hb hbox hg; have hcz15_0 : w14.cell? ⟨gb101, 0, none⟩ = some (.int .i64 a0_0) := (ul BK101.out 0).trans rfl; have hcz15_1 : w14.cell? ⟨gb101, 1, none⟩ = some (.slice A0_1 l0_1.length c0_1) := (ul BK101.out 1).trans rfl; have hfz15_0 := uu BK101.out 0; have hfz15_1 := uu BK101.out 1) | (go_at_call 37; (with_reducible refine (vergerref5_Sorted.calls k _ _ l0_1 true _ ?side1 ?side2 A8.out).mono ?_); (case side1 => repeat (first | exact (xm HR0_1.out HB.out) | (with_reducible refine xf ?_ _) | (with_reducible refine xe ?_ _) | (with_reducible refine xh ?_))); (case side2 => exact HC0_1.out); rintro e w16 ⟨rfl, hb⟩; have n0_ := Aside0.mk (vx (g := gb101) (o := .cells #[.int .i64 a0_0, .slice A0_1 l0_1.length c0_1] 28 (0, 0)) (by (with_reducible repeat (first | refine ur ?_ _ | refine ut ?_ | refine us ?_ _)); exact BK101.out) hb); have n1_ := Aside0.mk (uw (by repeat (first | (with_reducible first | exact HB.out | apply uf | apply ud | apply ue | refine ui ?_ GE101.out) | exact HB.out)) hb); clear BK101; clear HB; have BK101 := n0_; have HB := n1_; clear n0_ n1_; (try clear hb); (try clear hb2); (try clear hk); (try clear hi); have hcz17_0 : w16.cell? ⟨gb101, 0, none⟩ = some (.int .i64 a0_0) := (ul BK101.out 0).trans rfl; have hcz17_1 : w16.cell? ⟨gb101, 1, none⟩ = some (.slice A0_1 l0_1.length c0_1) := (ul BK101.out 1).trans rfl; have hfz17_0 := uu BK101.out 0; have hfz17_1 := uu BK101.out 1))
             repeat (go_quiet (first | ((with_reducible refine vz (N := 1) rfl ?_); (try (refine xt (by rfl) ?_; dsimp only)); refine vy ?hg (N := 1) ?hd (cs := #[.int .i64 a0_0, .slice A0_1 l0_1.length c0_1]) (t := 28) ?hr ?_; (case hd => rfl); (case hg => rfl); (case hr => first | (go_simp; done) | (go_simp; rfl)); intro gb101 hg w14 hbox hb; have n0_ := Aside0.mk (uw (by repeat (first | (with_reducible first | exact HB.out | apply uf | apply ud | apply ue) | exact HB.out)) hb); have n1_ := Aside0.mk (hbox); have n2_ := Aside0.mk ((by rw [hg]; exact (uo (by repeat (first | (with_reducible first | exact HB.out | apply uf | apply ud | apply ue) | exact HB.out))) : w.heap.size ≤ gb101)); have n3_ := Aside0.mk ((by rw [hg]; exact (uo (by repeat (first | (with_reducible first | exact HB.out | apply uf | apply ud | apply ue) | exact HB.out))) : w.heap.size ≤ gb101)); clear HB; have HB := n0_; have BK101 := n1_; have GW101 := n2_; have GE101 := n3_; clear n0_ n1_ n2_ n3_; clear hb hbox hg; have hcz15_0 : w14.cell? ⟨gb101, 0, none⟩ = some (.int .i64 a0_0) := (ul BK101.out 0).trans rfl; have hcz15_1 : w14.cell? ⟨gb101, 1, none⟩ = some (.slice A0_1 l0_1.length c0_1) := (ul BK101.out 1).trans rfl; have hfz15_0 := uu BK101.out 0; have hfz15_1 := uu BK101.out 1) | (go_at_call 37; (with_reducible refine (vergerref5_Sorted.calls k _ _ l0_1 true _ ?side1 ?side2 A8.out).mono ?_); (case side1 => repeat (first | exact (xm HR0_1.out HB.out) | (with_reducible refine xf ?_ _) | (with_reducible refine xe ?_ _) | (with_reducible refine xh ?_))); (case side2 => exact HC0_1.out); rintro e w16 ⟨rfl, hb⟩; have n0_ := Aside0.mk (vx (g := gb101) (o := .cells #[.int .i64 a0_0, .slice A0_1 l0_1.length c0_1] 28 (0, 0)) (by (with_reducible repeat (first | refine ur ?_ _ | refine ut ?_ | refine us ?_ _)); exact BK101.out) hb); have n1_ := Aside0.mk (uw (by repeat (first | (with_reducible first | exact HB.out | apply uf | apply ud | apply ue | refine ui ?_ GE101.out) | exact HB.out)) hb); clear BK101; clear HB; have BK101 := n0_; have HB := n1_; clear n0_ n1_; (try clear hb); (try clear hb2); (try clear hk); (try clear hi); have hcz17_0 : w16.cell? ⟨gb101, 0, none⟩ = some (.int .i64 a0_0) := (ul BK101.out 0).trans rfl; have hcz17_1 : w16.cell? ⟨gb101, 1, none⟩ = some (.slice A0_1 l0_1.length c0_1) := (ul BK101.out 1).trans rfl; have hfz17_0 := uu BK101.out 0; have hfz17_1 := uu BK101.out 1)); try go_wp2_with (first | ((with_reducible refine vz (N := 1) rfl ?_); (try (refine xt (by rfl) ?_; dsimp only)); refine vy ?hg (N := 1) ?hd (cs := #[.int .i64 a0_0, .slice A0_1 l0_1.length c0_1]) (t := 28) ?hr ?_; (case hd => rfl); (case hg => rfl); (case hr => first | (go_simp; done) | (go_simp; rfl)); intro gb101 hg w14 hbox hb; have n0_ := Aside0.mk (uw (by repeat (first | (with_reducible first | exact HB.out | apply uf | apply ud | apply ue) | exact HB.out)) hb); have n1_ := Aside0.mk (hbox); have n2_ := Aside0.mk ((by rw [hg]; exact (uo (by repeat (first | (with_reducible first | exact HB.out | apply uf | apply ud | apply ue) | exact HB.out))) : w.heap.size ≤ gb101)); have n3_ := Aside0.mk ((by rw [hg]; exact (uo (by repeat (first | (with_reducible first | exact HB.out | apply uf | apply ud | apply ue) | exact HB.out))) : w.heap.size ≤ gb101)); clear HB; have HB := n0_; have BK101 := n1_; have GW101 := n2_; have GE101 := n3_; clear n0_ n1_ n2_ n3_; clear hb hbox hg; have hcz15_0 : w14.cell? ⟨gb101, 0, none⟩ = some (.int .i64 a0_0) := (ul BK101.out 0).trans rfl; have hcz15_1 : w14.cell? ⟨gb101, 1, none⟩ = some (.slice A0_1 l0_1.length c0_1) := (ul BK101.out 1).trans rfl; have hfz15_0 := uu BK101.out 0; have hfz15_1 := uu BK101.out 1) | (go_at_call 37; (with_reducible refine (vergerref5_Sorted.calls k _ _ l0_1 true _ ?side1 ?side2 A8.out).mono ?_); (case side1 => repeat (first | exact (xm HR0_1.out HB.out) | (with_reducible refine xf ?_ _) | (with_reducible refine xe ?_ _) | (with_reducible refine xh ?_))); (case side2 => exact HC0_1.out); rintro e w16 ⟨rfl, hb⟩; have n0_ := Aside0.mk (vx (g := gb101) (o := .cells #[.int .i64 a0_0, .slice A0_1 l0_1.length c0_1] 28 (0, 0)) (by (with_reducible repeat (first | refine ur ?_ _ | refine ut ?_ | refine us ?_ _)); exact BK101.out) hb); have n1_ := Aside0.mk (uw (by repeat (first | (with_reducible first | exact HB.out | apply uf | apply ud | apply ue | refine ui ?_ GE101.out) | exact HB.out)) hb); clear BK101; clear HB; have BK101 := n0_; have HB := n1_; clear n0_ n1_; (try clear hb); (try clear hb2); (try clear hk); (try clear hi); have hcz17_0 : w16.cell? ⟨gb101, 0, none⟩ = some (.int .i64 a0_0) := (ul BK101.out 0).trans rfl; have hcz17_1 : w16.cell? ⟨gb101, 1, none⟩ = some (.slice A0_1 l0_1.length c0_1) := (ul BK101.out 1).trans rfl; have hfz17_0 := uu BK101.out 0; have hfz17_1 := uu BK101.out 1)))
             go_ret
             exact ⟨by first | rfl | (simp [errW_none, errW_some] <;> rfl) | (simp only [← hji11]; first | rfl | (simp [errW_none, errW_some] <;> rfl)) | (simp [*, errW_none, errW_some] <;> rfl), by repeat (first | (with_reducible first | exact HB.out | apply uf | apply ud | apply ue | refine ui ?_ GE101.out) | exact HB.out)⟩
           · rw [if_neg c13] at H; have c13b0 : (a0_0 == 0) = false := beq_eq_false_iff_ne.mpr c13; have c13b1 : (a0_0 != 0) = true := bne_iff_ne.mpr c13; have c18b0 := eq_true (ug (by first | (with_reducible assumption) | assumption) : 0 ≤ a0_0); obtain rfl := Option.some.inj H; go_enter Try.func17, Try.ntmps17
             go_wp2_with (first | ((with_reducible refine vz (N := 1) rfl ?_); (try (refine xt (by rfl) ?_; dsimp only)); refine vy ?hg (N := 1) ?hd (cs := #[.int .i64 a0_0, .slice A0_1 l0_1.length c0_1]) (t := 28) ?hr ?_; (case hd => rfl); (case hg => rfl); (case hr => first | (go_simp; done) | (go_simp; rfl)); intro gb101 hg w20 hbox hb; have n0_ := Aside0.mk (uw (by repeat (first | (with_reducible first | exact HB.out | apply uf | apply ud | apply ue) | exact HB.out)) hb); have n1_ := Aside0.mk (hbox); have n2_ := Aside0.mk ((by rw [hg]; exact (uo (by repeat (first | (with_reducible first | exact HB.out | apply uf | apply ud | apply ue) | exact HB.out))) : w.heap.size ≤ gb101)); have n3_ := Aside0.mk ((by rw [hg]; exact (uo (by repeat (first | (with_reducible first | exact HB.out | apply uf | apply ud | apply ue) | exact HB.out))) : w.heap.size ≤ gb101)); clear HB; have HB := n0_; have BK101 := n1_; have GW101 := n2_; have GE101 := n3_; clear n0_ n1_ n2_ n3_; clear hb hbox hg; have hcz21_0 : w20.cell? ⟨gb101, 0, none⟩ = some (.int .i64 a0_0) := (ul BK101.out 0).trans rfl; have hcz21_1 : w20.cell? ⟨gb101, 1, none⟩ = some (.slice A0_1 l0_1.length c0_1) := (ul BK101.out 1).trans rfl; have hfz21_0 := uu BK101.out 0; have hfz21_1 := uu BK101.out 1) | (go_at_call 37; (with_reducible refine (vergerref5_Sorted.calls k _ _ l0_1 true _ ?side1 ?side2 A8.out).mono ?_); (case side1 => repeat (first | exact (xm HR0_1.out HB.out) | (with_reducible refine xf ?_ _) | (with_reducible refine xe ?_ _) | (with_reducible refine xh ?_))); (case side2 => exact HC0_1.out); rintro e w22 ⟨rfl, hb⟩; have n0_ := Aside0.mk (vx (g := gb101) (o := .cells #[.int .i64 a0_0, .slice A0_1 l0_1.length c0_1] 28 (0, 0)) (by (with_reducible repeat (first | refine ur ?_ _ | refine ut ?_ | refine us ?_ _)); exact BK101.out) hb); have n1_ := Aside0.mk (uw (by repeat (first | (with_reducible first | exact HB.out | apply uf | apply ud | apply ue | refine ui ?_ GE101.out) | exact HB.out)) hb); clear BK101; clear HB; have BK101 := n0_; have HB := n1_; clear n0_ n1_; (try clear hb); (try clear hb2); (try clear hk); (try clear hi); have hcz23_0 : w22.cell? ⟨gb101, 0, none⟩ = some (.int .i64 a0_0) := (ul BK101.out 0).trans rfl; have hcz23_1 : w22.cell? ⟨gb101, 1, none⟩ = some (.slice A0_1 l0_1.length c0_1) := (ul BK101.out 1).trans rfl; have hfz23_0 := uu BK101.out 0; have hfz23_1 := uu BK101.out 1))
             repeat (go_quiet (first | ((with_reducible refine vz (N := 1) rfl ?_); (try (refine xt (by rfl) ?_; dsimp only)); refine vy ?hg (N := 1) ?hd (cs := #[.int .i64 a0_0, .slice A0_1 l0_1.length c0_1]) (t := 28) ?hr ?_; (case hd => rfl); (case hg => rfl); (case hr => first | (go_simp; done) | (go_simp; rfl)); intro gb101 hg w20 hbox hb; have n0_ := Aside0.mk (uw (by repeat (first | (with_reducible first | exact HB.out | apply uf | apply ud | apply ue) | exact HB.out)) hb); have n1_ := Aside0.mk (hbox); have n2_ := Aside0.mk ((by rw [hg]; exact (uo (by repeat (first | (with_reducible first | exact HB.out | apply uf | apply ud | apply ue) | exact HB.out))) : w.heap.size ≤ gb101)); have n3_ := Aside0.mk ((by rw [hg]; exact (uo (by repeat (first | (with_reducible first | exact HB.out | apply uf | apply ud | apply ue) | exact HB.out))) : w.heap.size ≤ gb101)); clear HB; have HB := n0_; have BK101 := n1_; have GW101 := n2_; have GE101 := n3_; clear n0_ n1_ n2_ n3_; clear hb hbox hg; have hcz21_0 : w20.cell? ⟨gb101, 0, none⟩ = some (.int .i64 a0_0) := (ul BK101.out 0).trans rfl; have hcz21_1 : w20.cell? ⟨gb101, 1, none⟩ = some (.slice A0_1 l0_1.length c0_1) := (ul BK101.out 1).trans rfl; have hfz21_0 := uu BK101.out 0; have hfz21_1 := uu BK101.out 1) | (go_at_call 37; (with_reducible refine (vergerref5_Sorted.calls k _ _ l0_1 true _ ?side1 ?side2 A8.out).mono ?_); (case side1 => repeat (first | exact (xm HR0_1.out HB.out) | (with_reducible refine xf ?_ _) | (with_reducible refine xe ?_ _) | (with_reducible refine xh ?_))); (case side2 => exact HC0_1.out); rintro e w22 ⟨rfl, hb⟩; have n0_ := Aside0.mk (vx (g := gb101) (o := .cells #[.int .i64 a0_0, .slice A0_1 l0_1.length c0_1] 28 (0, 0)) (by (with_reducible repeat (first | refine ur ?_ _ | refine ut ?_ | refine us ?_ _)); exact BK101.out) hb); have n1_ := Aside0.mk (uw (by repeat (first | (with_reducible first | exact HB.out | apply uf | apply ud | apply ue | refine ui ?_ GE101.out) | exact HB.out)) hb); clear BK101; clear HB; have BK101 := n0_; have HB := n1_; clear n0_ n1_; (try clear hb); (try clear hb2); (try clear hk); (try clear hi); have hcz23_0 : w22.cell? ⟨gb101, 0, none⟩ = some (.int .i64 a0_0) := (ul BK101.out 0).trans rfl; have hcz23_1 : w22.cell? ⟨gb101, 1, none⟩ = some (.slice A0_1 l0_1.length c0_1) := (ul BK101.out 1).trans rfl; have hfz23_0 := uu BK101.out 0; have hfz23_1 := uu BK101.out 1)); try go_wp2_with (first | ((with_reducible refine vz (N := 1) rfl ?_); (try (refine xt (by rfl) ?_; dsimp only)); refine vy ?hg (N := 1) ?hd (cs := #[.int .i64 a0_0, .slice A0_1 l0_1.length c0_1]) (t := 28) ?hr ?_; (case hd => rfl); (case hg => rfl); (case hr => first | (go_simp; done) | (go_simp; rfl)); intro gb101 hg w20 hbox hb; have n0_ := Aside0.mk (uw (by repeat (first | (with_reducible first | exact HB.out | apply uf | apply ud | apply ue) | exact HB.out)) hb); have n1_ := Aside0.mk (hbox); have n2_ := Aside0.mk ((by rw [hg]; exact (uo (by repeat (first | (with_reducible first | exact HB.out | apply uf | apply ud | apply ue) | exact HB.out))) : w.heap.size ≤ gb101)); have n3_ := Aside0.mk ((by rw [hg]; exact (uo (by repeat (first | (with_reducible first | exact HB.out | apply uf | apply ud | apply ue) | exact HB.out))) : w.heap.size ≤ gb101)); clear HB; have HB := n0_; have BK101 := n1_; have GW101 := n2_; have GE101 := n3_; clear n0_ n1_ n2_ n3_; clear hb hbox hg; have hcz21_0 : w20.cell? ⟨gb101, 0, none⟩ = some (.int .i64 a0_0) := (ul BK101.out 0).trans rfl; have hcz21_1 : w20.cell? ⟨gb101, 1, none⟩ = some (.slice A0_1 l0_1.length c0_1) := (ul BK101.out 1).trans rfl; have hfz21_0 := uu BK101.out 0; have hfz21_1 := uu BK101.out 1) | (go_at_call 37; (with_reducible refine (vergerref5_Sorted.calls k _ _ l0_1 true _ ?side1 ?side2 A8.out).mono ?_); (case side1 => repeat (first | exact (xm HR0_1.out HB.out) | (with_reducible refine xf ?_ _) | (with_reducible refine xe ?_ _) | (with_reducible refine xh ?_))); (case side2 => exact HC0_1.out); rintro e w22 ⟨rfl, hb⟩; have n0_ := Aside0.mk (vx (g := gb101) (o := .cells #[.int .i64 a0_0, .slice A0_1 l0_1.length c0_1] 28 (0, 0)) (by (with_reducible repeat (first | refine ur ?_ _ | refine ut ?_ | refine us ?_ _)); exact BK101.out) hb); have n1_ := Aside0.mk (uw (by repeat (first | (with_reducible first | exact HB.out | apply uf | apply ud | apply ue | refine ui ?_ GE101.out) | exact HB.out)) hb); clear BK101; clear HB; have BK101 := n0_; have HB := n1_; clear n0_ n1_; (try clear hb); (try clear hb2); (try clear hk); (try clear hi); have hcz23_0 : w22.cell? ⟨gb101, 0, none⟩ = some (.int .i64 a0_0) := (ul BK101.out 0).trans rfl; have hcz23_1 : w22.cell? ⟨gb101, 1, none⟩ = some (.slice A0_1 l0_1.length c0_1) := (ul BK101.out 1).trans rfl; have hfz23_0 := uu BK101.out 0; have hfz23_1 := uu BK101.out 1)))
             go_ret
             exact ⟨by first | rfl | (simp [errW_none, errW_some] <;> rfl) | (simp only [← hji11]; first | rfl | (simp [errW_none, errW_some] <;> rfl)) | (simp [*, errW_none, errW_some] <;> rfl), by repeat (first | (with_reducible first | exact HB.out | apply uf | apply ud | apply ue | refine ui ?_ GE101.out) | exact HB.out)⟩
         · rw [if_neg c12] at H; have c12b0 : decide ((l0_1.length : Int) ≤ (ji11)) = false := decide_eq_false c12; clear c12; obtain rfl := Option.some.inj H; go_enter Try.func17, Try.ntmps17
           go_wp2_with (first | ((with_reducible refine vz (N := 1) rfl ?_); (try (refine xt (by rfl) ?_; dsimp only)); refine vy ?hg (N := 1) ?hd (cs := #[.int .i64 a0_0, .slice A0_1 l0_1.length c0_1]) (t := 28) ?hr ?_; (case hd => rfl); (case hg => rfl); (case hr => first | (go_simp; done) | (go_simp; rfl)); intro gb101 hg w24 hbox hb; have n0_ := Aside0.mk (uw (by repeat (first | (with_reducible first | exact HB.out | apply uf | apply ud | apply ue) | exact HB.out)) hb); have n1_ := Aside0.mk (hbox); have n2_ := Aside0.mk ((by rw [hg]; exact (uo (by repeat (first | (with_reducible first | exact HB.out | apply uf | apply ud | apply ue) | exact HB.out))) : w.heap.size ≤ gb101)); have n3_ := Aside0.mk ((by rw [hg]; exact (uo (by repeat (first | (with_reducible first | exact HB.out | apply uf | apply ud | apply ue) | exact HB.out))) : w.heap.size ≤ gb101)); clear HB; have HB := n0_; have BK101 := n1_; have GW101 := n2_; have GE101 := n3_; clear n0_ n1_ n2_ n3_; clear hb hbox hg; have hcz25_0 : w24.cell? ⟨gb101, 0, none⟩ = some (.int .i64 a0_0) := (ul BK101.out 0).trans rfl; have hcz25_1 : w24.cell? ⟨gb101, 1, none⟩ = some (.slice A0_1 l0_1.length c0_1) := (ul BK101.out 1).trans rfl; have hfz25_0 := uu BK101.out 0; have hfz25_1 := uu BK101.out 1) | (go_at_call 37; (with_reducible refine (vergerref5_Sorted.calls k _ _ l0_1 true _ ?side1 ?side2 A8.out).mono ?_); (case side1 => repeat (first | exact (xm HR0_1.out HB.out) | (with_reducible refine xf ?_ _) | (with_reducible refine xe ?_ _) | (with_reducible refine xh ?_))); (case side2 => exact HC0_1.out); rintro e w26 ⟨rfl, hb⟩; have n0_ := Aside0.mk (vx (g := gb101) (o := .cells #[.int .i64 a0_0, .slice A0_1 l0_1.length c0_1] 28 (0, 0)) (by (with_reducible repeat (first | refine ur ?_ _ | refine ut ?_ | refine us ?_ _)); exact BK101.out) hb); have n1_ := Aside0.mk (uw (by repeat (first | (with_reducible first | exact HB.out | apply uf | apply ud | apply ue | refine ui ?_ GE101.out) | exact HB.out)) hb); clear BK101; clear HB; have BK101 := n0_; have HB := n1_; clear n0_ n1_; (try clear hb); (try clear hb2); (try clear hk); (try clear hi); have hcz27_0 : w26.cell? ⟨gb101, 0, none⟩ = some (.int .i64 a0_0) := (ul BK101.out 0).trans rfl; have hcz27_1 : w26.cell? ⟨gb101, 1, none⟩ = some (.slice A0_1 l0_1.length c0_1) := (ul BK101.out 1).trans rfl; have hfz27_0 := uu BK101.out 0; have hfz27_1 := uu BK101.out 1))
           repeat (go_quiet (first | ((with_reducible refine vz (N := 1) rfl ?_); (try (refine xt (by rfl) ?_; dsimp only)); refine vy ?hg (N := 1) ?hd (cs := #[.int .i64 a0_0, .slice A0_1 l0_1.length c0_1]) (t := 28) ?hr ?_; (case hd => rfl); (case hg => rfl); (case hr => first | (go_simp; done) | (go_simp; rfl)); intro gb101 hg w24 hbox hb; have n0_ := Aside0.mk (uw (by repeat (first | (with_reducible first | exact HB.out | apply uf | apply ud | apply ue) | exact HB.out)) hb); have n1_ := Aside0.mk (hbox); have n2_ := Aside0.mk ((by rw [hg]; exact (uo (by repeat (first | (with_reducible first | exact HB.out | apply uf | apply ud | apply ue) | exact HB.out))) : w.heap.size ≤ gb101)); have n3_ := Aside0.mk ((by rw [hg]; exact (uo (by repeat (first | (with_reducible first | exact HB.out | apply uf | apply ud | apply ue) | exact HB.out))) : w.heap.size ≤ gb101)); clear HB; have HB := n0_; have BK101 := n1_; have GW101 := n2_; have GE101 := n3_; clear n0_ n1_ n2_ n3_; clear hb hbox hg; have hcz25_0 : w24.cell? ⟨gb101, 0, none⟩ = some (.int .i64 a0_0) := (ul BK101.out 0).trans rfl; have hcz25_1 : w24.cell? ⟨gb101, 1, none⟩ = some (.slice A0_1 l0_1.length c0_1) := (ul BK101.out 1).trans rfl; have hfz25_0 := uu BK101.out 0; have hfz25_1 := uu BK101.out 1) | (go_at_call 37; (with_reducible refine (vergerref5_Sorted.calls k _ _ l0_1 true _ ?side1 ?side2 A8.out).mono ?_); (case side1 => repeat (first | exact (xm HR0_1.out HB.out) | (with_reducible refine xf ?_ _) | (with_reducible refine xe ?_ _) | (with_reducible refine xh ?_))); (case side2 => exact HC0_1.out); rintro e w26 ⟨rfl, hb⟩; have n0_ := Aside0.mk (vx (g := gb101) (o := .cells #[.int .i64 a0_0, .slice A0_1 l0_1.length c0_1] 28 (0, 0)) (by (with_reducible repeat (first | refine ur ?_ _ | refine ut ?_ | refine us ?_ _)); exact BK101.out) hb); have n1_ := Aside0.mk (uw (by repeat (first | (with_reducible first | exact HB.out | apply uf | apply ud | apply ue | refine ui ?_ GE101.out) | exact HB.out)) hb); clear BK101; clear HB; have BK101 := n0_; have HB := n1_; clear n0_ n1_; (try clear hb); (try clear hb2); (try clear hk); (try clear hi); have hcz27_0 : w26.cell? ⟨gb101, 0, none⟩ = some (.int .i64 a0_0) := (ul BK101.out 0).trans rfl; have hcz27_1 : w26.cell? ⟨gb101, 1, none⟩ = some (.slice A0_1 l0_1.length c0_1) := (ul BK101.out 1).trans rfl; have hfz27_0 := uu BK101.out 0; have hfz27_1 := uu BK101.out 1)); try go_wp2_with (first | ((with_reducible refine vz (N := 1) rfl ?_); (try (refine xt (by rfl) ?_; dsimp only)); refine vy ?hg (N := 1) ?hd (cs := #[.int .i64 a0_0, .slice A0_1 l0_1.length c0_1]) (t := 28) ?hr ?_; (case hd => rfl); (case hg => rfl); (case hr => first | (go_simp; done) | (go_simp; rfl)); intro gb101 hg w24 hbox hb; have n0_ := Aside0.mk (uw (by repeat (first | (with_reducible first | exact HB.out | apply uf | apply ud | apply ue) | exact HB.out)) hb); have n1_ := Aside0.mk (hbox); have n2_ := Aside0.mk ((by rw [hg]; exact (uo (by repeat (first | (with_reducible first | exact HB.out | apply uf | apply ud | apply ue) | exact HB.out))) : w.heap.size ≤ gb101)); have n3_ := Aside0.mk ((by rw [hg]; exact (uo (by repeat (first | (with_reducible first | exact HB.out | apply uf | apply ud | apply ue) | exact HB.out))) : w.heap.size ≤ gb101)); clear HB; have HB := n0_; have BK101 := n1_; have GW101 := n2_; have GE101 := n3_; clear n0_ n1_ n2_ n3_; clear hb hbox hg; have hcz25_0 : w24.cell? ⟨gb101, 0, none⟩ = some (.int .i64 a0_0) := (ul BK101.out 0).trans rfl; have hcz25_1 : w24.cell? ⟨gb101, 1, none⟩ = some (.slice A0_1 l0_1.length c0_1) := (ul BK101.out 1).trans rfl; have hfz25_0 := uu BK101.out 0; have hfz25_1 := uu BK101.out 1) | (go_at_call 37; (with_reducible refine (vergerref5_Sorted.calls k _ _ l0_1 true _ ?side1 ?side2 A8.out).mono ?_); (case side1 => repeat (first | exact (xm HR0_1.out HB.out) | (with_reducible refine xf ?_ _) | (with_reducible refine xe ?_ _) | (with_reducible refine xh ?_))); (case side2 => exact HC0_1.out); rintro e w26 ⟨rfl, hb⟩; have n0_ := Aside0.mk (vx (g := gb101) (o := .cells #[.int .i64 a0_0, .slice A0_1 l0_1.length c0_1] 28 (0, 0)) (by (with_reducible repeat (first | refine ur ?_ _ | refine ut ?_ | refine us ?_ _)); exact BK101.out) hb); have n1_ := Aside0.mk (uw (by repeat (first | (with_reducible first | exact HB.out | apply uf | apply ud | apply ue | refine ui ?_ GE101.out) | exact HB.out)) hb); clear BK101; clear HB; have BK101 := n0_; have HB := n1_; clear n0_ n1_; (try clear hb); (try clear hb2); (try clear hk); (try clear hi); have hcz27_0 : w26.cell? ⟨gb101, 0, none⟩ = some (.int .i64 a0_0) := (ul BK101.out 0).trans rfl; have hcz27_1 : w26.cell? ⟨gb101, 1, none⟩ = some (.slice A0_1 l0_1.length c0_1) := (ul BK101.out 1).trans rfl; have hfz27_0 := uu BK101.out 0; have hfz27_1 := uu BK101.out 1)))
           go_ret
           exact ⟨by first | rfl | (simp [errW_none, errW_some] <;> rfl) | (simp only [← hji11]; first | rfl | (simp [errW_none, errW_some] <;> rfl)) | (simp [*, errW_none, errW_some] <;> rfl), by repeat (first | (with_reducible first | exact HB.out | apply uf | apply ud | apply ue | refine ui ?_ GE101.out) | exact HB.out)⟩
       · rw [if_neg c10] at H; exact absurd H (by simp)
     · replace c9 := Bool.eq_false_iff.mpr c9; subst c9; (have H1 : (some false) = some r := by rw [if_neg (show ¬ (false = true) by decide)] at H; exact H); clear H; have H := H1; clear H1; obtain rfl := Option.some.inj H; go_enter Try.func17, Try.ntmps17
       go_wp2_with (first | ((with_reducible refine vz (N := 1) rfl ?_); (try (refine xt (by rfl) ?_; dsimp only)); refine vy ?hg (N := 1) ?hd (cs := #[.int .i64 a0_0, .slice A0_1 l0_1.length c0_1]) (t := 28) ?hr ?_; (case hd => rfl); (case hg => rfl); (case hr => first | (go_simp; done) | (go_simp; rfl)); intro gb101 hg w28 hbox hb; have n0_ := Aside0.mk (uw (by repeat (first | (with_reducible first | exact HB.out | apply uf | apply ud | apply ue) | exact HB.out)) hb); have n1_ := Aside0.mk (hbox); have n2_ := Aside0.mk ((by rw [hg]; exact (uo (by repeat (first | (with_reducible first | exact HB.out | apply uf | apply ud | apply ue) | exact HB.out))) : w.heap.size ≤ gb101)); have n3_ := Aside0.mk ((by rw [hg]; exact (uo (by repeat (first | (with_reducible first | exact HB.out | apply uf | apply ud | apply ue) | exact HB.out))) : w.heap.size ≤ gb101)); clear HB; have HB := n0_; have BK101 := n1_; have GW101 := n2_; have GE101 := n3_; clear n0_ n1_ n2_ n3_; clear hb hbox hg; have hcz29_0 : w28.cell? ⟨gb101, 0, none⟩ = some (.int .i64 a0_0) := (ul BK101.out 0).trans rfl; have hcz29_1 : w28.cell? ⟨gb101, 1, none⟩ = some (.slice A0_1 l0_1.length c0_1) := (ul BK101.out 1).trans rfl; have hfz29_0 := uu BK101.out 0; have hfz29_1 := uu BK101.out 1) | (go_at_call 37; (with_reducible refine (vergerref5_Sorted.calls k _ _ l0_1 false _ ?side1 ?side2 A8.out).mono ?_); (case side1 => repeat (first | exact (xm HR0_1.out HB.out) | (with_reducible refine xf ?_ _) | (with_reducible refine xe ?_ _) | (with_reducible refine xh ?_))); (case side2 => exact HC0_1.out); rintro e w30 ⟨rfl, hb⟩; have n0_ := Aside0.mk (vx (g := gb101) (o := .cells #[.int .i64 a0_0, .slice A0_1 l0_1.length c0_1] 28 (0, 0)) (by (with_reducible repeat (first | refine ur ?_ _ | refine ut ?_ | refine us ?_ _)); exact BK101.out) hb); have n1_ := Aside0.mk (uw (by repeat (first | (with_reducible first | exact HB.out | apply uf | apply ud | apply ue | refine ui ?_ GE101.out) | exact HB.out)) hb); clear BK101; clear HB; have BK101 := n0_; have HB := n1_; clear n0_ n1_; (try clear hb); (try clear hb2); (try clear hk); (try clear hi)))
       repeat (go_quiet (first | ((with_reducible refine vz (N := 1) rfl ?_); (try (refine xt (by rfl) ?_; dsimp only)); refine vy ?hg (N := 1) ?hd (cs := #[.int .i64 a0_0, .slice A0_1 l0_1.length c0_1]) (t := 28) ?hr ?_; (case hd => rfl); (case hg => rfl); (case hr => first | (go_simp; done) | (go_simp; rfl)); intro gb101 hg w28 hbox hb; have n0_ := Aside0.mk (uw (by repeat (first | (with_reducible first | exact HB.out | apply uf | apply ud | apply ue) | exact HB.out)) hb); have n1_ := Aside0.mk (hbox); have n2_ := Aside0.mk ((by rw [hg]; exact (uo (by repeat (first | (with_reducible first | exact HB.out | apply uf | apply ud | apply ue) | exact HB.out))) : w.heap.size ≤ gb101)); have n3_ := Aside0.mk ((by rw [hg]; exact (uo (by repeat (first | (with_reducible first | exact HB.out | apply uf | apply ud | apply ue) | exact HB.out))) : w.heap.size ≤ gb101)); clear HB; have HB := n0_; have BK101 := n1_; have GW101 := n2_; have GE101 := n3_; clear n0_ n1_ n2_ n3_; clear hb hbox hg; have hcz29_0 : w28.cell? ⟨gb101, 0, none⟩ = some (.int .i64 a0_0) := (ul BK101.out 0).trans rfl; have hcz29_1 : w28.cell? ⟨gb101, 1, none⟩ = some (.slice A0_1 l0_1.length c0_1) := (ul BK101.out 1).trans rfl; have hfz29_0 := uu BK101.out 0; have hfz29_1 := uu BK101.out 1) | (go_at_call 37; (with_reducible refine (vergerref5_Sorted.calls k _ _ l0_1 false _ ?side1 ?side2 A8.out).mono ?_); (case side1 => repeat (first | exact (xm HR0_1.out HB.out) | (with_reducible refine xf ?_ _) | (with_reducible refine xe ?_ _) | (with_reducible refine xh ?_))); (case side2 => exact HC0_1.out); rintro e w30 ⟨rfl, hb⟩; have n0_ := Aside0.mk (vx (g := gb101) (o := .cells #[.int .i64 a0_0, .slice A0_1 l0_1.length c0_1] 28 (0, 0)) (by (with_reducible repeat (first | refine ur ?_ _ | refine ut ?_ | refine us ?_ _)); exact BK101.out) hb); have n1_ := Aside0.mk (uw (by repeat (first | (with_reducible first | exact HB.out | apply uf | apply ud | apply ue | refine ui ?_ GE101.out) | exact HB.out)) hb); clear BK101; clear HB; have BK101 := n0_; have HB := n1_; clear n0_ n1_; (try clear hb); (try clear hb2); (try clear hk); (try clear hi))); try go_wp2_with (first | ((with_reducible refine vz (N := 1) rfl ?_); (try (refine xt (by rfl) ?_; dsimp only)); refine vy ?hg (N := 1) ?hd (cs := #[.int .i64 a0_0, .slice A0_1 l0_1.length c0_1]) (t := 28) ?hr ?_; (case hd => rfl); (case hg => rfl); (case hr => first | (go_simp; done) | (go_simp; rfl)); intro gb101 hg w28 hbox hb; have n0_ := Aside0.mk (uw (by repeat (first | (with_reducible first | exact HB.out | apply uf | apply ud | apply ue) | exact HB.out)) hb); have n1_ := Aside0.mk (hbox); have n2_ := Aside0.mk ((by rw [hg]; exact (uo (by repeat (first | (with_reducible first | exact HB.out | apply uf | apply ud | apply ue) | exact HB.out))) : w.heap.size ≤ gb101)); have n3_ := Aside0.mk ((by rw [hg]; exact (uo (by repeat (first | (with_reducible first | exact HB.out | apply uf | apply ud | apply ue) | exact HB.out))) : w.heap.size ≤ gb101)); clear HB; have HB := n0_; have BK101 := n1_; have GW101 := n2_; have GE101 := n3_; clear n0_ n1_ n2_ n3_; clear hb hbox hg; have hcz29_0 : w28.cell? ⟨gb101, 0, none⟩ = some (.int .i64 a0_0) := (ul BK101.out 0).trans rfl; have hcz29_1 : w28.cell? ⟨gb101, 1, none⟩ = some (.slice A0_1 l0_1.length c0_1) := (ul BK101.out 1).trans rfl; have hfz29_0 := uu BK101.out 0; have hfz29_1 := uu BK101.out 1) | (go_at_call 37; (with_reducible refine (vergerref5_Sorted.calls k _ _ l0_1 false _ ?side1 ?side2 A8.out).mono ?_); (case side1 => repeat (first | exact (xm HR0_1.out HB.out) | (with_reducible refine xf ?_ _) | (with_reducible refine xe ?_ _) | (with_reducible refine xh ?_))); (case side2 => exact HC0_1.out); rintro e w30 ⟨rfl, hb⟩; have n0_ := Aside0.mk (vx (g := gb101) (o := .cells #[.int .i64 a0_0, .slice A0_1 l0_1.length c0_1] 28 (0, 0)) (by (with_reducible repeat (first | refine ur ?_ _ | refine ut ?_ | refine us ?_ _)); exact BK101.out) hb); have n1_ := Aside0.mk (uw (by repeat (first | (with_reducible first | exact HB.out | apply uf | apply ud | apply ue | refine ui ?_ GE101.out) | exact HB.out)) hb); clear BK101; clear HB; have BK101 := n0_; have HB := n1_; clear n0_ n1_; (try clear hb); (try clear hb2); (try clear hk); (try clear hi))))
       go_ret
       exact ⟨by first | rfl | (simp [errW_none, errW_some] <;> rfl) | (simp [*, errW_none, errW_some] <;> rfl), by repeat (first | (with_reducible first | exact HB.out | apply uf | apply ud | apply ue | refine ui ?_ GE101.out) | exact HB.out)⟩
end Go.Proofs.Ytccppdmangbdoaa.V
end
section
set_option linter.unusedVariables false
set_option linter.unusedSimpArgs false
namespace Go.Proofs.Ytccppdmangbdoaa.V
open Go.RowKit Go.Proofs.YtccppdmangbdoaaW.PrintWords Go.Proofs.YtccppdmangbdoaaW.PrintLast Go.Proofs.YtccppdmangbdoaaW.PrintMore
theorem same_loop (l : List E) (hl : l.length < 1000000000) : ∀ (d k i : Nat), l.length - i = d → i ≤ l.length → d < k → vergerref5_Same.l0 k l l (i : Int) = some true := by
 intro d
 induction d with
 | zero =>
  intro k i hd hi hk
  obtain ⟨k, rfl, _⟩ := succ_of hk
  simp only [vergerref5_Same.l0]
  rw [if_neg (by omega)]
 | succ d ih =>
  intro k i hd hi hk
  obtain ⟨k, rfl, hk'⟩ := succ_of hk
  have hz : (i : Int) < (l.length : Int) := by omega
  have h0 : (0 : Int) ≤ (i : Int) := by omega
  simp only [vergerref5_Same.l0, if_pos hz, if_pos h0, wrap_nat (show i ≤ 4611686018427387904 by omega)]
  rw [if_neg (by simp)]
  exact ih k (i + 1) (by omega) (by omega) (by omega)
theorem same_told (k : Nat) (l : List E) (hl : l.length < 1000000000) (hk : l.length < k) : vergerref5_Same.f k l l = some true := by
 unfold vergerref5_Same.f
 rw [if_pos rfl]
 exact same_loop l hl l.length k 0 (by omega) (by omega) hk
def downAt (l : List E) (j : Nat) : Bool := ltE (l.getD (j + 1) z31) (l.getD j z31)
def okTo (l : List E) : Nat → Bool
  | 0 => true
  | n + 1 => okTo l n && !downAt l n
theorem okTo_iff (l : List E) (n : Nat) : okTo l n = true ↔ ∀ j, j < n → downAt l j = false := by
 induction n with
 | zero => simp [okTo]
 | succ n ih =>
  simp only [okTo, Bool.and_eq_true, ih, Bool.not_eq_true']
  constructor
  · intro h j hj
    rcases Nat.lt_succ_iff_lt_or_eq.1 hj with h1 | h1
    · exact h.1 j h1
    · subst h1; exact h.2
  · intro h
    exact ⟨fun j hj => h j (by omega), h n (by omega)⟩
theorem okTo_false (l : List E) {j n : Nat} (hj : j < n) (h : downAt l j = true) : okTo l n = false := by
 cases hc : okTo l n with
 | false => rfl
 | true => have := (okTo_iff l n).1 hc j hj; rw [this] at h; cases h
theorem issorted_loop (l : List E) (hl : l.length < 1000000000) : ∀ (i k : Nat), i < l.length → i + 4 ≤ k → api_Entry_46.l0 k l (i : Int) = some (okTo l i) := by
 intro i
 induction i with
 | zero =>
  intro k hi hk
  obtain ⟨k, rfl, _⟩ := succ_of (show 0 < k by omega)
  simp only [api_Entry_46.l0]
  rw [if_neg (by omega)]
  rfl
 | succ i ih =>
  intro k hi hk
  obtain ⟨k, rfl, _⟩ := succ_of (show 0 < k by omega)
  have h0 : ((i + 1 : Nat) : Int) > 0 := by omega
  have h1 : (0 : Int) ≤ ((i + 1 : Nat) : Int) := by omega
  have h2 : ((i + 1 : Nat) : Int) < (l.length : Int) := by omega
  have hw : wrap64 (((i + 1 : Nat) : Int) - 1) = (i : Int) := by rw [wsub1 (by omega) (by omega)]; omega
  have h3 : (0 : Int) ≤ (i : Int) := by omega
  have h4 : (i : Int) < (l.length : Int) := by omega
  simp only [api_Entry_46.l0, if_pos h0, if_pos h1, if_pos h2, hw, if_pos h3, if_pos h4, compare_told k (show 3 ≤ k by omega), Option.bind_some, rd_nat]
  by_cases hc : downAt l i = true
  · rw [if_pos ((cmpE_neg _ _).2 hc)]
    simp only [okTo, hc]
    simp
  · rw [if_neg (fun h => hc ((cmpE_neg _ _).1 h)), ih k (by omega) (by omega)]
    simp only [okTo]
    simp [hc]
theorem issorted_told (k : Nat) (l : List E) (hl : l.length < 1000000000) (hk : l.length + 4 ≤ k) : entry_Sorted.f k l = some (okTo l (l.length - 1)) := by
 unfold entry_Sorted.f api_Entry_46.f
 by_cases hn : l.length = 0
 · rw [hn]
   obtain ⟨k, rfl, _⟩ := succ_of (show 0 < k by omega)
   have hw : wrap64 (((0 : Nat) : Int) - 1) = -1 := wrap_id (by omega) (by omega)
   rw [hw]
   simp [api_Entry_46.l0, okTo]
 · rw [wsub1 (by omega) (by omega), issorted_loop l hl (l.length - 1) k (by omega) (by omega)]
   rfl
theorem okTo_sorted {l : List E} (h : SortedE l) : okTo l (l.length - 1) = true := by
 rw [okTo_iff]
 intro j hj
 unfold downAt
 have h1 : j + 1 < l.length := by omega
 have h2 : j < l.length := by omega
 simp only [List.getD_eq_getElem?_getD, List.getElem?_eq_getElem h1, List.getElem?_eq_getElem h2, Option.getD_some]
 have := sorted_get h (show j < j + 1 by omega) (List.getElem?_eq_getElem h2) (List.getElem?_eq_getElem h1)
 simpa [leE] using this
theorem okTo_sorted' {l : List E} {n : Nat} (h : SortedE l) (hn : l.length = n) : okTo l (n - 1) = true := by subst hn; exact okTo_sorted h
theorem refsorted_loop (l : List E) (hl : l.length < 1000000000) : ∀ (d k i : Nat), l.length - 1 - i = d → okTo l i = true → d + 1 < k → vergerref5_Sorted.l0 k l ((i + 1 : Nat) : Int) = some (okTo l (max i (l.length - 1))) := by
 intro d
 induction d with
 | zero =>
  intro k i hd hok hk
  obtain ⟨k, rfl, _⟩ := succ_of hk
  simp only [vergerref5_Sorted.l0]
  rw [if_neg (by omega), show max i (l.length - 1) = i by omega, hok]
 | succ d ih =>
  intro k i hd hok hk
  obtain ⟨k, rfl, hk'⟩ := succ_of hk
  have h1 : (0 : Int) ≤ ((i + 1 : Nat) : Int) := by omega
  have h2 : ((i + 1 : Nat) : Int) < (l.length : Int) := by omega
  have hw : wrap64 (((i + 1 : Nat) : Int) - 1) = (i : Int) := by rw [wsub1 (by omega) (by omega)]; omega
  have h3 : (0 : Int) ≤ (i : Int) := by omega
  have h4 : (i : Int) < (l.length : Int) := by omega
  simp only [vergerref5_Sorted.l0, if_pos h1, if_pos h2, hw, if_pos h3, if_pos h4, refless_told, Option.bind_some, rd_nat, wrap_nat (show i + 1 ≤ 4611686018427387904 by omega)]
  rw [show max i (l.length - 1) = max (i + 1) (l.length - 1) by omega]
  by_cases hc : downAt l i = true
  · rw [if_pos (by exact hc), okTo_false l (j := i) (by omega) hc]
  · rw [if_neg (by exact hc)]
    exact ih k (i + 1) (by omega) (by simp [okTo, hok, hc]) (by omega)
theorem refsorted_told (k : Nat) (l : List E) (hl : l.length < 1000000000) (hk : l.length + 1 < k) : vergerref5_Sorted.f k l = some (okTo l (l.length - 1)) := by
 have := refsorted_loop l hl (l.length - 1) k 0 (by omega) rfl (by omega)
 unfold vergerref5_Sorted.f
 simpa using this
end Go.Proofs.Ytccppdmangbdoaa.V
end
section
set_option linter.unusedVariables false
set_option linter.unusedSimpArgs false
namespace Go.Proofs.Ytccppdmangbdoaa.V
open Go.RowKit Go.Proofs.YtccppdmangbdoaaW.PrintWords Go.Proofs.YtccppdmangbdoaaW.PrintLast Go.Proofs.YtccppdmangbdoaaW.PrintMore
def levGo : Nat → Nat → Int → Nat
  | 0, i, _ => i
  | d + 1, i, n => if (2 : Int) ^ i < n then levGo d (i + 1) n else i
def lev (n : Int) : Nat := levGo 62 0 n
theorem pow2_pos (i : Nat) : (0 : Int) < 2 ^ i := Int.pow_pos (by decide)
theorem pow2_lt : ∀ (i : Nat), i ≤ 62 → (2 : Int) ^ i ≤ 4611686018427387904 := by
 intro i hi
 have : (2 : Int) ^ i ≤ 2 ^ 62 := by
  have h : (2 : Nat) ^ i ≤ 2 ^ 62 := Nat.pow_le_pow_right (by decide) hi
  exact_mod_cast h
 simpa using this
theorem shl_one {i : Nat} (h : i ≤ 62) : shl .i64 1 (i : Int) = 2 ^ i := by
 unfold shl
 have h1 : min ((i : Int)).toNat IntKind.i64.bits = i := by show min _ 64 = i; omega
 rw [h1, Int.one_mul]
 have h2 := pow2_pos i
 have h3 := pow2_lt i h
 rw [i64_w]
 exact wrap_id (by omega) (by omega)
theorem level_loop (n : Int) : ∀ (d k i : Nat), i + d = 62 → d < k → block_Level.l0 k n (i : Int) = some ((levGo d i n : Nat) : Int) := by
 intro d
 induction d with
 | zero =>
  intro k i hd hk
  obtain ⟨k, rfl, _⟩ := succ_of hk
  simp only [block_Level.l0]
  rw [if_neg (by omega)]
  rfl
 | succ d ih =>
  intro k i hd hk
  obtain ⟨k, rfl, hk'⟩ := succ_of hk
  simp only [block_Level.l0]
  rw [if_pos (by omega), if_pos (by omega), shl_one (by omega), wrap_nat (by omega), ih k (i + 1) (by omega) (by omega)]
  simp only [levGo]
  by_cases hc : (2 : Int) ^ i < n
  · rw [if_pos hc, if_pos hc]
  · rw [if_neg hc, if_neg hc]
theorem level_told (k : Nat) (n : Int) (hk : 62 < k) : block_Level.f k n = some ((lev n : Nat) : Int) := level_loop n 62 k 0 (by omega) hk
theorem lev_le : ∀ (d i : Nat) (n : Int), levGo d i n ≤ i + d := by
 intro d
 induction d with
 | zero => intro i n; exact Nat.le_refl _
 | succ d ih =>
  intro i n
  simp only [levGo]
  split
  · exact Nat.le_trans (ih (i + 1) n) (by omega)
  · omega
def LevOk (n : Int) (L : Nat) : Prop := n ≤ 2 ^ L ∧ (0 < L → (2 : Int) ^ (L - 1) < n)
theorem levgo_ok : ∀ (d i : Nat) (n : Int), i + d = 62 → n ≤ 4611686018427387904 → (0 < i → (2 : Int) ^ (i - 1) < n) → LevOk n (levGo d i n) := by
 intro d
 induction d with
 | zero =>
  intro i n hd hn hi
  obtain rfl : i = 62 := by omega
  exact ⟨by simpa [levGo] using hn, by simpa [levGo] using hi⟩
 | succ d ih =>
  intro i n hd hn hi
  simp only [levGo]
  by_cases hc : (2 : Int) ^ i < n
  · rw [if_pos hc]
    exact ih (i + 1) n (by omega) hn (fun _ => by simpa using hc)
  · rw [if_neg hc]
    exact ⟨by omega, hi⟩
theorem lev_ok {n : Int} (hn : n ≤ 4611686018427387904) : LevOk n (lev n) := levgo_ok 62 0 n (by omega) hn (by omega)
theorem pow_mono {a b : Nat} (h : a ≤ b) : (2 : Int) ^ a ≤ 2 ^ b := by
 have : (2 : Nat) ^ a ≤ 2 ^ b := Nat.pow_le_pow_right (by decide) h
 exact_mod_cast this
theorem lev_unique {n : Int} {L M : Nat} (h : LevOk n L) (k : LevOk n M) : L = M := by
 rcases Nat.lt_trichotomy L M with h1 | h1 | h1
 · have := k.2 (by omega)
   have := pow_mono (a := L) (b := M - 1) (by omega)
   have := h.1
   omega
 · exact h1
 · have := h.2 (by omega)
   have := pow_mono (a := M) (b := L - 1) (by omega)
   have := k.1
   omega
theorem lev_62 (n : Int) : lev n ≤ 62 := by have := lev_le 62 0 n; unfold lev; omega
theorem sort6_some {l : List E} (h : l.length < 1000000000) : entry_Sort.f l = some (sortE l) := if_pos h
theorem of_told (k : Nat) (l : List E) (hl : l.length < 1000000000) (hk : 62 < k) : block_Of.f k l = some (((lev (l.length : Int) : Nat) : Int), sortE l) := by
 unfold block_Of.f
 rw [level_told k _ hk]
 simp only [Option.bind_some]
 rw [sort6_some hl]
 rfl
theorem blockok_told (k : Nat) (L : Int) (l : List E) (hl : l.length < 1000000000) (hk : l.length + 64 ≤ k) : block_Block_Ok.f k L l = some (decide (L = ((lev (l.length : Int) : Nat) : Int)) && okTo l (l.length - 1)) := by
 have h62 := lev_62 (l.length : Int)
 unfold block_Block_Ok.f
 rw [level_told k _ (by omega)]
 simp only [Option.bind_some]
 rw [issorted_told k l hl (by omega)]
 simp only [Option.bind_some]
 by_cases h0 : L ≥ 0
 · rw [if_pos h0]
   by_cases h1 : L ≤ 62
   · rw [if_pos h1]
     by_cases h2 : L = ((lev (l.length : Int) : Nat) : Int)
     · rw [if_pos h2, decide_eq_true h2, Bool.true_and]
     · rw [if_neg h2, decide_eq_false h2, Bool.false_and]
   · rw [if_neg h1, decide_eq_false (by omega), Bool.false_and]
 · rw [if_neg h0, decide_eq_false (by omega), Bool.false_and]
theorem blockok_of (k : Nat) (l : List E) (hl : l.length < 1000000000) (hk : l.length + 64 ≤ k) : block_Block_Ok.f k ((lev (l.length : Int) : Nat) : Int) (sortE l) = some true := by
 have hs := sortE_length l
 rw [blockok_told k _ _ (by omega) (by omega), hs, okTo_sorted' (sortE_sorted l) hs]
 simp
def allB (bs : List S26) : List E := bs.flatMap fun b => b.f1
end Go.Proofs.Ytccppdmangbdoaa.V
end
