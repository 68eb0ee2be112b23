-- a text of this work, without what this claim doesn't use (wip/shake.py)
import Derived.Test.YthghkglkifeagaaHVBits
import Derived.Test.YthghkglkifeagaaHWWords
import Derived.SizedLaws
import Derived.ChangeSlices
import Derived.WalkKit
import Derived.ProofKit
import Derived.OpenShut
import Derived.ShutString
import Derived.ChangeOld
import Derived.Below
import Derived.Deep.Slices
section
set_option linter.unusedVariables false
set_option linter.unusedSimpArgs false
namespace Go.Proofs.Ythghkglkifeagaa.V
open Go.RowKit Go.Proofs.YthghkglkifeagaaW.PrintWords Go.Proofs.YthghkglkifeagaaW.PrintLast Go.Proofs.YthghkglkifeagaaW.PrintMore
def bitH (x : Int) (m : Nat) : Bool := bits BinOp.and IntKind.i64 (x / 2 ^ m) 1 == 1
theorem bitH_one {x : Int} {m : Nat} (h : bitH x m = true) : bits BinOp.and IntKind.i64 (x / 2 ^ m) 1 = 1 := by simpa [bitH] using h
theorem bitH_zero {x : Int} {m : Nat} (h : bitH x m = false) : bits BinOp.and IntKind.i64 (x / 2 ^ m) 1 = 0 := by
 have h1 := and_maskL (x / 2 ^ m) 1 (by omega)
 rw [show ((1 : Nat) : Int) = 1 from rfl] at h1
 have : ¬ bits BinOp.and IntKind.i64 (x / 2 ^ m) 1 = 1 := by simpa [bitH] using h
 omega
theorem hW_few {T u : Nat} {B : Nat → Bool} (hu : u < T) : u < (hW T u B).loc.length := by rw [hW_len hu]; exact hu
set_option maxRecDepth 100000 in
set_option maxHeartbeats 4000000 in
theorem queueHelps_walk (x s v : Int) (w : World) :
 Calls Try.prog 4 #[.int .i64 x, .int .i64 s, .int .i64 v] w fun e w' => e = .returned (.bool true) ∧ Below w.heap.size w w' := by
 have hx := and_maskL (x.tmod 7) 7 (by omega)
 rw [show ((7 : Nat) : Int) = 7 from rfl] at hx
 obtain ⟨z, hz⟩ : ∃ z : Nat, bits BinOp.and IntKind.i64 (x.tmod 7) 7 = (z : Int) := ⟨(bits BinOp.and IntKind.i64 (x.tmod 7) 7).toNat, by omega⟩
 have hz7 : z ≤ 7 := by omega
 have hwx : IntKind.i64.wrap (x.tmod 7) = x.tmod 7 := IntWalk.i64_in _ (by have h1 := Int.lt_tmod_of_pos x (b := 7) (by omega); have h2 := Int.tmod_lt_of_pos x (b := 7) (by omega); omega)
 obtain ⟨T, hT⟩ : ∃ T, T = if z = 7 then 3 else z + 2 := ⟨_, rfl⟩
 have hT8 : 2 ≤ T ∧ T ≤ 8 := by rw [hT]; split <;> omega
 have hv := and_maskL v 255 (by omega)
 rw [show ((255 : Nat) : Int) = 255 from rfl] at hv
 obtain ⟨c, hc⟩ : ∃ c : Nat, bits BinOp.and IntKind.i64 v 255 = (c : Int) := ⟨(bits BinOp.and IntKind.i64 v 255).toNat, by omega⟩
 have hc255 : c ≤ 255 := by omega
 obtain ⟨u, hu⟩ : ∃ u, c % T = u := ⟨_, rfl⟩
 have huT : u < T := by rw [← hu]; exact Nat.mod_lt _ (by omega)
 have hu1 : (c : Int).tmod (T : Int) = (u : Int) := by rw [Int.tmod_eq_emod_of_nonneg (by omega), ← hu]; rfl
 have HTT := Aside0.mk hT8
 have HUT := Aside0.mk huT
 clear hx hv
 go_enter Try.func4, Try.ntmps4
 go_upto_if 26 with fail
 go_cut [0] (fun s0 wx => s0 = .int .i64 (T : Int) ∧ Aside0 (wx = w))
 case first =>
  by_cases h7 : z = 7
  · rw [if_pos h7] at hT
    have HE := Aside0.mk hT
    clear hT hu1 hu huT hT8
    subst h7
    go_wp2_with fail
    go_meet
    exact ⟨by rw [HE.out]; rfl, ⟨rfl⟩⟩
  · rw [if_neg h7] at hT
    have HE := Aside0.mk hT
    have hz6 : z ≤ 6 := by omega
    have hz2 : ¬ ((z : Int) + 2 > 8) := by omega
    have hz3 : ¬ (8 < (z : Int) + 2) := by omega
    have hz4 : ¬ ((z : Int) + 2 < 2) := by omega
    clear hT hu1 hu huT hT8
    go_wp2_with fail
    go_meet
    exact ⟨by rw [HE.out]; first | rfl | (push_cast; rfl), ⟨rfl⟩⟩
 case rest =>
  obtain ⟨rfl, HWC⟩ := hcut
  have hwc := HWC.out.symm
  subst hwc
  clear HWC hz hwx hT
  go_wp2_with fail
  refine (q_new T 16 _ (by have := HTT.out; omega) HTT.out.2 (by omega)).mono ?_
  rintro q w1 ⟨pq, rfl, h1⟩
  rw [hA_new T (bitH s)] at h1
  have HD := Aside0.mk h1
  have hT0 : ¬ ((T : Int) = 0) := by omega
  have hT1 : ¬ (T = 0) := by omega
  clear h1
  go_wp2_with fail
  clear hu1 hc
  go_loopw [9] (fun i wr => ∃ m : Nat, m ≤ T ∧ i = .int .i64 m ∧ Aside0 (QOk w wr pq (hA T m (bitH s)) (2 * m) [])) (fun i _ => T - (intOf i).toNat)
  case atStart => exact ⟨0, Nat.zero_le _, rfl, HD⟩
  case round =>
   clear HD
   obtain ⟨m, hm, rfl, HQ⟩ := hrel
   by_cases hlt : m < T
   · have HLT := Aside0.mk hlt
     cases hb : bitH s m with
     | false =>
      have hbit := bitH_zero hb
      have HQ2 := Aside0.mk (show QOk w wr pq (hA T (m + 1) (bitH s)) (2 * (m + 1)) [] by rw [hA_skip hb]; exact HQ.out.mono (by omega))
      clear hb
      go_wp2
      go_roundw
      case rel => exact ⟨m + 1, by omega, by go_num, HQ2⟩
      case measure => simp [intOf]; omega
     | true =>
      have hbit := bitH_one hb
      have HST := Aside0.mk (hA_settle hlt hb)
      have s1 : IntKind.i64.wrap (50 + (m : Int)) = 50 + (m : Int) := IntWalk.i64_in _ (by omega)
      have s2 : IntKind.u64.wrap (50 + (m : Int)) = 50 + (m : Int) := IntWalk.u64_in _ (by omega)
      have HBD := Aside0.mk (show 2 * m + 1 ≤ 100 by omega)
      clear hb
      go_wp2_with fail
      refine (qk_put HQ.out (by have := HBD.out; omega) m (by have := HLT.out; simp [hA]; omega) (hE m)).mono ?_
      rintro q w2 ⟨rfl, h2⟩
      have HQ2 := Aside0.mk h2
      clear h2 s1 s2
      go_wp2_with fail
      refine (qk_settle HQ2.out (by have := HBD.out; omega) m (by rw [(show (putQ (hA T m (bitH s)) m (hE m)).loc.length = T by rw [hA_put HLT.out]; simp [hA])]; exact HLT.out)).mono ?_
      rintro q w3 ⟨hq, h3⟩
      rw [HST.out.2] at hq
      rw [HST.out.1] at h3
      obtain rfl : q = .returned (.bool true) := hq
      have HQ3 := Aside0.mk (show QOk w w3 pq (hA T (m + 1) (bitH s)) (2 * (m + 1)) [] from h3)
      clear h3
      go_wp2
      go_roundw
      case rel => exact ⟨m + 1, by omega, by go_num, HQ3⟩
      case measure => simp [intOf]; omega
   · obtain rfl : m = T := by omega
     clear hlt hm
     go_wp2_with fail
     refine (qk_put HQ.out (by have := HTT.out; omega) u (by have := HUT.out; simp [hA]; omega) ⟨1, 99⟩).mono ?_
     rintro q w2 ⟨rfl, h2⟩
     have HQ2 := Aside0.mk (show QOk w w2 pq (hW m u (bitH s)) 30 [] from h2.mono (by have := HTT.out; omega))
     clear h2 HQ
     go_wp2_with fail
     rename World => wo
     go_loopw [10, 11] (fun y i wr => ∃ j : Nat, j ≤ m ∧ y = .int .i64 99 ∧ i = .int .i64 j ∧ Aside0 (∀ l, l < j → bitH s ((u + l) % m) = false) ∧ Aside0 (QOk w wr pq (hW m u (bitH s)) 30 [])) (fun _ i _ => m - (intOf i).toNat)
     case atStart => exact ⟨0, Nat.zero_le _, rfl, rfl, ⟨fun l h => by omega⟩, HQ2⟩
     case round =>
      clear HQ2
      obtain ⟨j, hj, rfl, rfl, HN, HQ⟩ := hrel
      by_cases hlt : j < m
      · obtain ⟨t, ht⟩ : ∃ t, (u + j) % m = t := ⟨_, rfl⟩
        have htm : t < m := by rw [← ht]; exact Nat.mod_lt _ (by omega)
        have t1 : ((u : Int) + (j : Int)).tmod (m : Int) = (t : Int) := by
         rw [Int.tmod_eq_emod_of_nonneg (by omega), ← ht]; rfl
        have t2 : ((u : Int) + (j : Int)) % (m : Int) = (t : Int) := by rw [← ht]; rfl
        have t3 : IntKind.i64.wrap ((u : Int) + (j : Int)) = (u : Int) + (j : Int) := IntWalk.i64_in _ (by omega)
        cases hb : bitH s t with
        | false =>
         have hbit := bitH_zero hb
         have HN2 : Aside0 (∀ l, l < j + 1 → bitH s ((u + l) % m) = false) := ⟨fun l hl => by
          by_cases h1 : l = j
          · rw [h1, ht]; exact hb
          · exact HN.out l (by omega)⟩
         clear hb ht
         go_wp2
         go_roundw
         case rel => exact ⟨j + 1, by omega, rfl, by go_num, HN2, HQ⟩
         case measure => simp [intOf]; omega
        | true =>
         have hbit := bitH_one hb
         have HREL := Aside0.mk (show relaxedQ (hW m u (bitH s)) u 7 = some ⟨50 + (t : Int), (t : Int) + 1⟩ by
          have := hW_hit HUT.out hlt (by rw [ht]; exact hb) HN.out 7
          rw [ht] at this
          exact this)
         clear hb ht HN
         go_wp2_with fail
         refine (qk_relaxed HQ.out (by omega) u (hW_few HUT.out) 7 (by omega)).mono ?_
         rintro q w5 ⟨hq, hb5⟩
         rw [HREL.out] at hq
         obtain rfl : q = .returned (.tuple #[.agg #[.int .u64 (50 + (t : Int)), .int .i64 ((t : Int) + 1)], .bool true]) := hq
         have hx5 := heap_alloc_new w5 (.cells #[.int .u64 (50 + (t : Int)), .int .i64 ((t : Int) + 1)] 29)
         have hb6 := below_alloc (Below.refl w5.heap.size w5) (.cells #[.int .u64 (50 + (t : Int)), .int .i64 ((t : Int) + 1)] 29)
         have HX5 := Aside0.mk hx5
         have HQ5 := Aside0.mk ((HQ.out.below hb5).below hb6)
         clear hb5 hb6 hx5
         go_wp2_with fail
         refine (qk_least HQ5.out (by omega)).mono ?_
         rintro q w6 ⟨hq, hb6⟩
         rw [hW_least HUT.out] at hq
         obtain rfl : q = .returned (.tuple #[.agg #[.int .u64 1, .int .i64 99], .bool true]) := hq
         have y1 : ∀ o, (w6.alloc o).cell? ⟨w5.heap.size, 1, none⟩ = some (.int .i64 ((t : Int) + 1)) := fun o => pw_cell_below (below_alloc (Below.refl w6.heap.size w6) o) (pw_cell_below hb6 ((blk_cell HX5.out 1).trans rfl))
         have HB6 := Aside0.mk (show ∀ o, Below w.heap.size w (w6.alloc o) from fun o => below_step (HQ5.out.below hb6).bel (below_alloc (Below.refl w6.heap.size w6) o))
         clear hb6
         go_wp2_with fail
         refine (awake10 _).mono ?_
         rintro q w7 ⟨rfl, hb7⟩
         have HB7 := Aside0.mk (below_step (HB6.out _) hb7)
         clear hb7
         go_wp2
         go_ret
         exact ⟨by first | rfl | simp, HB7.out⟩
      · obtain rfl : j = m := by omega
        have HREL := Aside0.mk (hW_miss HUT.out HN.out 7)
        clear HN
        go_wp2_with fail
        refine (qk_relaxed HQ.out (by omega) u (hW_few HUT.out) 7 (by omega)).mono ?_
        rintro q w5 ⟨hq, hb5⟩
        rw [HREL.out] at hq
        obtain rfl : q = .returned (.tuple #[.agg #[.int .u64 (1), .int .i64 (99)], .bool true]) := hq
        have hx5 := heap_alloc_new w5 (.cells #[.int .u64 (1), .int .i64 (99)] 29)
        have hb6 := below_alloc (Below.refl w5.heap.size w5) (.cells #[.int .u64 (1), .int .i64 (99)] 29)
        have HX5 := Aside0.mk hx5
        have HQ5 := Aside0.mk ((HQ.out.below hb5).below hb6)
        clear hb5 hb6 hx5
        go_wp2_with fail
        refine (qk_least HQ5.out (by omega)).mono ?_
        rintro q w6 ⟨hq, hb6⟩
        rw [hW_least HUT.out] at hq
        obtain rfl : q = .returned (.tuple #[.agg #[.int .u64 1, .int .i64 99], .bool true]) := hq
        have y1 : ∀ o, (w6.alloc o).cell? ⟨w5.heap.size, 1, none⟩ = some (.int .i64 (99)) := fun o => pw_cell_below (below_alloc (Below.refl w6.heap.size w6) o) (pw_cell_below hb6 ((blk_cell HX5.out 1).trans rfl))
        have HB6 := Aside0.mk (show ∀ o, Below w.heap.size w (w6.alloc o) from fun o => below_step (HQ5.out.below hb6).bel (below_alloc (Below.refl w6.heap.size w6) o))
        clear hb6
        go_wp2_with fail
        refine (awake10 _).mono ?_
        rintro q w7 ⟨rfl, hb7⟩
        have HB7 := Aside0.mk (below_step (HB6.out _) hb7)
        clear hb7
        go_wp2
        go_ret
        exact ⟨by first | rfl | simp, HB7.out⟩
end Go.Proofs.Ythghkglkifeagaa.V
end
section
set_option linter.unusedVariables false
set_option linter.unusedSimpArgs false
namespace Go.Proofs.Ythghkglkifeagaa.V
open Go.RowKit Go.Proofs.YthghkglkifeagaaW.PrintWords Go.Proofs.YthghkglkifeagaaW.PrintLast Go.Proofs.YthghkglkifeagaaW.PrintMore
def vergerlaw10_QueueHelps.f (a0 : Int) (a1 : Int) (a2 : Int) : Option Bool := some true
theorem vergerlaw10_QueueHelps.calls (a0 : Int) (a1 : Int) (a2 : Int) (r : Bool) (w : World)  (h : vergerlaw10_QueueHelps.f a0 a1 a2 = some r) :
 Calls Try.prog 4 #[.int .i64 a0, .int .i64 a1, .int .i64 a2] w fun e w' => e = .returned (.bool r) ∧ Below w.heap.size w w' := by
 obtain rfl := Option.some.inj h
 exact queueHelps_walk a0 a1 a2 w
theorem QueueHelps_pure (a0 : Int) (a1 : Int) (a2 : Int) {P0 P1 P2 : Prop} (_ : P0) (_ : P1) (_ : P2) : vergerlaw10_QueueHelps.f a0 a1 a2 = some true := rfl
end Go.Proofs.Ythghkglkifeagaa.V
end
