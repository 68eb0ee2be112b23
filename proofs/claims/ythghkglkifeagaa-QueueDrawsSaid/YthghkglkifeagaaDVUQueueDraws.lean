-- a text of this work, without what this claim doesn't use (wip/shake.py)
import Derived.Test.YthghkglkifeagaaDVXClone
import Derived.Test.YthghkglkifeagaaDVEqE
import Derived.Test.YthghkglkifeagaaDVL6
import Derived.BigQuiet
import Derived.Test.YthghkglkifeagaaDWWords
import Derived.SizedLaws
import Derived.ChangeSlices
import Derived.WalkKit
import Derived.ProofKit
import Derived.OpenShut
import Derived.ShutString
import Derived.ChangeOld
import Derived.Below
import Derived.Deep.Slices
section
set_option linter.unusedVariables false
set_option linter.unusedSimpArgs false
namespace Go.Proofs.Ythghkglkifeagaa.V
open Go.RowKit Go.Proofs.YthghkglkifeagaaW.PrintWords Go.Proofs.YthghkglkifeagaaW.PrintLast Go.Proofs.YthghkglkifeagaaW.PrintMore
structure DrSt (w wr : World) (pq k m : Nat) : Prop where
  ex : ∃ a, QOk w wr pq a (2 * m) [] ∧ Spill a k m none [none] [[]]
set_option maxRecDepth 100000 in
set_option maxHeartbeats 4000000 in
theorem queueDraws_walk (x y : Int) (w : World) :
 Calls Try.prog 5 #[.int .i64 x, .int .i64 y] w fun e w' => e = .returned (.bool true) ∧ Below w.heap.size w w' := by
 have hx := and_maskL x 15 (by omega)
 rw [show ((15 : Nat) : Int) = 15 from rfl] at hx
 obtain ⟨k, hk⟩ : ∃ k : Nat, bits BinOp.and IntKind.i64 x 15 = (k : Int) := ⟨(bits BinOp.and IntKind.i64 x 15).toNat, by omega⟩
 have hk15 : k ≤ 15 := by omega
 have hy := and_maskL y 7 (by omega)
 rw [show ((7 : Nat) : Int) = 7 from rfl] at hy
 obtain ⟨z, hz⟩ : ∃ z : Nat, bits BinOp.and IntKind.i64 y 7 = (z : Int) := ⟨(bits BinOp.and IntKind.i64 y 7).toNat, by omega⟩
 have hz7 : z ≤ 7 := by omega
 obtain ⟨N, hN⟩ : ∃ N, N = (z + 1) * (k + 1) := ⟨_, rfl⟩
 have hN1 : N ≤ 128 := by
  rw [hN]
  calc (z + 1) * (k + 1) ≤ 8 * 16 := Nat.mul_le_mul (by omega) (by omega)
   _ = 128 := rfl
 have hN2 : k + 1 ≤ N := by rw [hN]; exact Nat.le_mul_of_pos_left _ (by omega)
 have HN0 := Aside0.mk (show N % (k + 1) = 0 by rw [hN]; exact Nat.mul_mod_left _ _)
 have hNc : ((z : Int) + 1) * ((k : Int) + 1) = (N : Int) := by rw [hN]; push_cast; rfl
 have hNw : IntKind.i64.wrap (((z : Int) + 1) * ((k : Int) + 1)) = (N : Int) := by rw [hNc]; exact IntWalk.i64_in _ (by omega)
 clear hx hy hN hNc
 go_enter Try.func5, Try.ntmps5
 go_wp2_with fail
 refine (q_new 2 k w (by omega) (by omega) (by omega)).mono ?_
 rintro q w1 ⟨pq, rfl, h1⟩
 have HD := Aside0.mk (show DrSt w w1 pq k 0 from ⟨⟨_, h1, Spill.new 1 k⟩⟩)
 clear h1 hk hz
 go_wp2_with fail
 clear hNw
 go_loopw [7] (fun i wr => ∃ m : Nat, m ≤ N ∧ i = .int .i64 ((m : Int) + 1) ∧ Aside0 (DrSt w wr pq k m)) (fun i _ => N + 1 - (intOf i).toNat)
 case atStart => exact ⟨0, Nat.zero_le _, rfl, HD⟩
 case round =>
  clear HD
  obtain ⟨m, hm, rfl, HR⟩ := hrel
  obtain ⟨a, hq, hs⟩ := HR.out.ex
  have HQ := Aside0.mk hq
  have HS := Aside0.mk hs
  have HF := Aside0.mk hq.few
  clear hq hs
  by_cases hlt : m < N
  · have hlt2 : (m : Int) + 1 ≤ (N : Int) := by omega
    have s1 : IntKind.i64.wrap (((m : Int) + 1) * 17) = ((m : Int) + 1) * 17 := IntWalk.i64_in _ (by omega)
    have s2 : (((m : Int) + 1) * 17).tmod 151 = ((m : Int) + 1) * 17 % 151 := Int.tmod_eq_emod_of_nonneg (by omega)
    have s3 : IntKind.i64.wrap (((m : Int) + 1) * 17 % 151) = ((m : Int) + 1) * 17 % 151 := IntWalk.i64_in _ (by omega)
    have s4 : IntKind.u64.wrap (((m : Int) + 1) * 17 % 151) = ((m : Int) + 1) * 17 % 151 := IntWalk.u64_in _ (by omega)
    have HBD := Aside0.mk (show 2 * m + 1 ≤ 800 by omega)
    go_wp2_with fail
    refine (qk_put HQ.out (by have := HBD.out; omega) 0 (by have := HF.out; omega) ⟨((m : Int) + 1) * 17 % 151, (m : Int) + 1⟩).mono ?_
    rintro q w2 ⟨rfl, h2⟩
    have HQ2 := Aside0.mk h2
    have HS2 := Aside0.mk (HS.out.put ⟨((m : Int) + 1) * 17 % 151, (m : Int) + 1⟩)
    clear h2
    obtain ⟨a2, ha2⟩ : ∃ a2, a2 = putQ a 0 ⟨((m : Int) + 1) * 17 % 151, (m : Int) + 1⟩ := ⟨_, rfl⟩
    rw [← ha2] at HQ2 HS2
    have HSL := Aside0.mk (show (slotQ a2 0).isSome = true by unfold slotQ; rw [HS2.out.S]; rfl)
    clear ha2 s1 s2 s3 s4
    go_wp2_with fail
    refine (qk_settle HQ2.out HBD.out 0 (by have := HQ2.out.few; omega)).mono ?_
    rintro q w3 ⟨rfl, h3⟩
    rw [HSL.out]
    have HD3 := Aside0.mk (show DrSt w w3 pq k (m + 1) from ⟨⟨_, h3, HS2.out.settle⟩⟩)
    clear h3
    go_wp2
    go_roundw
    case rel => exact ⟨m + 1, by omega, by go_num, HD3⟩
    case measure => simp [intOf]; omega
  · obtain rfl : m = N := by omega
    have hlt2 : ¬ ((m : Int) + 1 ≤ (m : Int)) := by omega
    obtain ⟨l0, hl0, hl1⟩ := HS.out.loc
    have hsh := HS.out.sh
    rw [HN0.out, Nat.sub_zero] at hsh
    rw [HN0.out, List.length_eq_zero_iff] at hl1
    have HL0 := Aside0.mk (show a.loc.getD 0 [] = [] by rw [hl0, hl1]; rfl)
    have HLOC := Aside0.mk (show ∃ l0, a.loc = [l0, []] from ⟨l0, hl0⟩)
    have HL1 := Aside0.mk (show a.loc.getD 1 [] = [] by rw [hl0]; rfl)
    have HKK := Aside0.mk HS.out.k_
    have HSO := Aside0.mk HQ.out.sorted
    have HNN := Aside0.mk (show 2 * m ≤ 900 ∧ m ≤ 128 ∧ k + 1 ≤ m by omega)
    have HSH := Aside0.mk hsh
    clear hl0 hl1 hm hlt HN0 hN1 hN2 HS HR
    subst hsh
    go_wp2_with fail
    refine (qk_shared HQ.out HNN.out.1).mono ?_
    rintro q w2 ⟨v2, rfl, hv2, hb2⟩
    obtain ⟨A2, c2, rfl⟩ := Kd.V_slice hv2
    have HV2 := Aside0.mk (Kd.V_reads' hv2)
    have HQ2 := Aside0.mk (HQ.out.below hb2)
    clear hv2 hb2
    go_wp2_with fail
    refine (qk_local HQ2.out HNN.out.1 0 (by have := HF.out; omega)).mono ?_
    rintro q w3 ⟨v3, rfl, hv3, hb3⟩
    rw [HL0.out] at hv3
    obtain ⟨A3, c3, rfl⟩ := Kd.V_slice hv3
    have HQ3 := Aside0.mk (HQ2.out.below hb3)
    have HC3 := Aside0.mk (Kd.C_below HV2.out.2.2 hb3)
    clear hv3 hb3
    have hkw : IntKind.i64.wrap (2 * (k : Int)) = 2 * (k : Int) := IntWalk.i64_in _ (by omega)
    go_wp2_with fail
    go_loopw [9] (fun i wr => ∃ d : Nat, d ≤ 2 * k + 2 ∧ i = .int .i64 d ∧ Aside0 (Below w3.heap.size w3 wr)) (fun i _ => 2 * k + 2 - (intOf i).toNat)
    case atStart => exact ⟨0, Nat.zero_le _, rfl, ⟨Below.refl _ _⟩⟩
    case round =>
     obtain ⟨d, hd, rfl, HB⟩ := hrel
     have HQ4 := Aside0.mk (HQ3.out.below HB.out)
     have HC4 := Aside0.mk (Kd.C_below HC3.out HB.out)
     by_cases hlt : d < 2 * k + 2
     · obtain ⟨r, hr⟩ : ∃ r, d % (k + 1) = r := ⟨_, rfl⟩
       have hrl : r < k + 1 := by rw [← hr]; exact Nat.mod_lt _ (by omega)
       obtain ⟨e, he⟩ : ∃ e, a.sh.getD r ⟨0, 0⟩ = e := ⟨_, rfl⟩
       have HREL := Aside0.mk (show relaxedQ a 1 d = some e by rw [relaxed_shared HL1.out (by rw [HKK.out]; exact HNN.out.2.2), HKK.out, hr, he])
       have r1 : (d : Int).tmod ((k : Int) + 1) = (r : Int) := by rw [Int.tmod_eq_emod_of_nonneg (by omega), ← hr]; rfl
       have r2 : (d : Int) % ((k : Int) + 1) = (r : Int) := by rw [← hr]; rfl
       have r4 : ¬ ((k : Int) + 1 = 0) := by omega
       have r6 : ((k : Int) + 1 == 0) = false := by rw [beq_eq_false_iff_ne]; omega
       have s3 : IntKind.u64.wrap (d : Int) = (d : Int) := IntWalk.u64_in _ (by omega)
       have hlt2 : (d : Int) < 2 * (k : Int) + 2 := by omega
       have hri : (r : Int) < (a.sh.length : Int) := by have := HNN.out.2.2; omega
       have hri0 : (0 : Int) ≤ (r : Int) := by omega
       have HDB := Aside0.mk (show d < 18446744073709551616 by omega)
       have HEE := Aside0.mk he
       have hneq := fun (a b : Int) (W : World) => neqE_same a b W
       clear hr he
       go_wp2_with fail
       refine (qk_relaxed HQ4.out HNN.out.1 1 (by have := HF.out; have h1 := HL1.out; obtain ⟨l0, h2⟩ : ∃ l0, a.loc = [l0, []] := HLOC.out; rw [h2]; simp) d HDB.out).mono ?_
       rintro q w5 ⟨hq5, hb5⟩
       rw [HREL.out] at hq5
       obtain rfl : q = .returned (.tuple #[.agg #[.int .u64 e.f0, .int .i64 e.f1], .bool true]) := hq5
       have HB6 := Aside0.mk (below_step hb5 (below_alloc (Below.refl w5.heap.size w5) (.cells #[.int .u64 e.f0, .int .i64 e.f1] 29)))
       have HB7 := Aside0.mk (below_step HB.out HB6.out)
       have hx := heap_alloc_new w5 (.cells #[.int .u64 e.f0, .int .i64 e.f1] 29)
       have x0 := (blk_cell hx 0).trans rfl
       have x1 := (blk_cell hx 1).trans rfl
       obtain ⟨ad, e1, y0, y1⟩ := at_T29 (Kd.C_below HC4.out HB6.out) (r : Int) (by omega) (by omega)
       subst e1
       have hrd : rd_T29 a.sh (r : Int) = e := by unfold rd_T29; rw [Int.toNat_natCast]; exact HEE.out
       rw [Int.toNat_natCast, hrd] at y0 y1
       clear hb5 hx hrd
       go_wp2
       go_quiet (fail)
       go_wp2
       go_roundw
       case rel => exact ⟨d + 1, by omega, by go_num, ⟨pw_below_drewN HB7.out _⟩⟩
       case measure => simp [intOf]; omega
     · obtain rfl : d = 2 * k + 2 := by omega
       have hlt2 : ¬ ((((2 * k + 2 : Nat)) : Int) < 2 * (k : Int) + 2) := by omega
       have HSR := Aside0.mk (show vergerref5_Sorted.f 1000 a.sh = some true by rw [refsorted_told 1000 a.sh (by have := HNN.out; omega) (by have := HNN.out; omega), okTo_sorted HSO.out])
       clear hlt hd
       go_wp2_with fail
       refine (vergerref5_Sorted.calls 1000 A2 c2 a.sh true _ HC4.out HV2.out.2.1 HSR.out).mono ?_
       rintro q w5 ⟨rfl, hb5⟩
       have HB5 := Aside0.mk (HQ4.out.below hb5).bel
       clear hb5
       go_wp2_with fail
       refine (awake10 _).mono ?_
       rintro q w6 ⟨rfl, hb6⟩
       have HB6 := Aside0.mk (below_step HB5.out hb6)
       clear hb6
       go_wp2
       go_ret
       exact ⟨rfl, HB6.out⟩
end Go.Proofs.Ythghkglkifeagaa.V
end
section
set_option linter.unusedVariables false
set_option linter.unusedSimpArgs false
namespace Go.Proofs.Ythghkglkifeagaa.V
open Go.RowKit Go.Proofs.YthghkglkifeagaaW.PrintWords Go.Proofs.YthghkglkifeagaaW.PrintLast Go.Proofs.YthghkglkifeagaaW.PrintMore
def vergerlaw10_QueueDraws.f (a0 : Int) (a1 : Int) : Option Bool := some true
theorem vergerlaw10_QueueDraws.calls (a0 : Int) (a1 : Int) (r : Bool) (w : World)  (h : vergerlaw10_QueueDraws.f a0 a1 = some r) :
 Calls Try.prog 5 #[.int .i64 a0, .int .i64 a1] w fun e w' => e = .returned (.bool r) ∧ Below w.heap.size w w' := by
 obtain rfl := Option.some.inj h
 exact queueDraws_walk a0 a1 w
theorem QueueDraws_pure (a0 : Int) (a1 : Int) {P0 P1 : Prop} (_ : P0) (_ : P1) : vergerlaw10_QueueDraws.f a0 a1 = some true := rfl
end Go.Proofs.Ythghkglkifeagaa.V
end
