-- a text of this work, without what this claim doesn't use (wip/shake.py)
import Derived.Test.YthghkglkifeagaaSVPentry1
import Derived.Test.YthghkglkifeagaaSVL6
import Derived.Test.YthghkglkifeagaaSVQ11
import Derived.Test.YthghkglkifeagaaSVQ0
import Derived.IntWalk
import Derived.Test.YthghkglkifeagaaSVPentry
import Derived.Test.YthghkglkifeagaaSWWords
import Derived.SizedLaws
import Derived.ChangeSlices
import Derived.WalkKit
import Derived.ProofKit
import Derived.OpenShut
import Derived.ShutString
import Derived.ChangeOld
import Derived.Below
import Derived.Deep.Slices
section
set_option linter.unusedVariables false
set_option linter.unusedSimpArgs false
namespace Go.Proofs.Ythghkglkifeagaa.V
open Go.RowKit Go.Proofs.YthghkglkifeagaaW.PrintWords Go.Proofs.YthghkglkifeagaaW.PrintLast Go.Proofs.YthghkglkifeagaaW.PrintMore
theorem locs_len (l : List (List E)) : l.flatten.length = sumL l := by rw [List.length_flatten]; rfl
theorem locs_take (l : List (List E)) (m : Nat) (h : m < l.length) : (l.take (m + 1)).flatten = (l.take m).flatten ++ l.getD m [] := by
 rw [List.take_succ_eq_append_getElem h, List.flatten_append, List.getD_eq_getElem?_getD, List.getElem?_eq_getElem h]
 simp
theorem locs_take_le (l : List (List E)) (m : Nat) : (l.take m).flatten.length ≤ sumL l := by
 rw [← locs_len l]
 conv => rhs; rw [← List.take_append_drop m l]
 rw [List.flatten_append, List.length_append]
 omega
theorem slots_le (a : Qa) : (slotsE a).length ≤ a.S.length := by unfold slotsE; exact List.length_filterMap_le _ _
theorem allQ_le (a : Qa) : (allQ a).length ≤ a.S.length + a.sh.length + sumL a.loc := by
 unfold allQ
 rw [sortE_length, List.length_append, List.length_append, locs_len]
 have := slots_le a
 omega
theorem V_to {w : World} {b b' : Nat} {ok ok' : Nat → Prop} {v : Value} {l : List E} (h : Kd.V k29 29 w b ok v l) (hk : ∀ k, ok k → ok' k) : Kd.V k29 29 w b' ok' v l := Kd.V_mono (show Kd.V k29 29 w b' ok v l from h) hk
set_option maxRecDepth 100000 in
set_option maxHeartbeats 2000000 in
theorem qk_all {w0 w : World} {pq : Nat} {a : Qa} {n : Nat} {B : List (Nat × Obj)} (h : QOk w0 w pq a n B) (hn : n ≤ 900) :
 Calls Try.prog 30 #[.pointer (some ⟨pq, 0, none⟩)] w fun e w' => ∃ v0_ : Value, e = .returned v0_ ∧ NewE w w' v0_ (allQ a) := by
 have HQ := Aside0.mk h
 obtain ⟨f1, f2, f3⟩ := h.few
 have HC := Aside0.mk h.cnt
 have HSE := Aside0.mk (show (slotsE a).length ≤ 8 by have := slots_le a; omega)
 obtain ⟨who, q, h1, h2, _⟩ := h.ex
 obtain ⟨g, cap, hv, hc, _, hr⟩ := h1.lists
 have e1 := h2.len
 have hp := h1.c2
 rw [hv, e1] at hp
 rw [e1] at hc
 have HH1 := Aside0.mk h1
 have HH2 := Aside0.mk h2
 have HR := Aside0.mk hr
 have HP := Aside0.mk hp
 have HSS := Aside0.mk (show SortedE a.sh by rw [← h2.sh]; exact sortE_sorted _)
 have HLE := Aside0.mk e1
 clear h h1 h2 hv hr hp e1
 go_enter Try.func30, Try.ntmps30
 go_wp2_with fail
 refine (qk_slots HQ.out).mono ?_
 rintro e w1 ⟨v1, rfl, hv1, hb1⟩
 obtain ⟨A1, c1, rfl⟩ := Kd.V_slice hv1
 have HB1 := Aside0.mk hb1
 have HV1 := Aside0.mk (Kd.V_reads' hv1)
 clear hv1 hb1
 go_wp2_with fail
 refine (entry_Sort.calls A1 c1 (slotsE a) _ w1 HV1.out.2.2 HV1.out.2.1 (sort6_some (by have := HSE.out; omega))).mono ?_
 rintro e w2 ⟨v2, rfl, hv2, hb2⟩
 obtain ⟨A2, c2, rfl⟩ := Kd.V_slice hv2
 have HB2 := Aside0.mk (below_step HB1.out hb2)
 have HV2 := Aside0.mk hv2
 clear hv2 hb2
 go_wp2_with fail
 refine (qk_shared (HQ.out.below HB2.out) hn).mono ?_
 rintro e w3 ⟨v3, rfl, hv3, hb3⟩
 obtain ⟨A3, c3, rfl⟩ := Kd.V_slice hv3
 have HB3 := Aside0.mk (below_step HB2.out hb3)
 have HV3 := Aside0.mk hv3
 have HV23 := Aside0.mk (Kd.V_below HV2.out hb3)
 have HT := Aside0.mk (merge_told 3000000 (sortE (slotsE a)) a.sh (sortE_sorted _) HSS.out (by rw [sortE_length]; have := HSE.out; have := HC.out; omega) (by rw [sortE_length]; have := HSE.out; have := HC.out; omega))
 clear hv3 hb3
 go_wp2_with fail
 refine (entry_Merge.calls 3000000 _ A2 c2 (sortE (slotsE a)) _ A3 c3 a.sh _ w3 (V_to HV23.out (fun _ hk => hk)) (V_to HV3.out (fun _ hk => hk)) HT.out).mono ?_
 rintro e w4 ⟨v4, rfl, hv4, hb4⟩
 have HB4 := Aside0.mk (below_step HB3.out hb4)
 have HX := Aside0.mk (show Kd.V k29 29 w4 w.heap.size (fun k => w.heap.size ≤ k) v4 (sortE (slotsE a ++ a.sh ++ (a.loc.take 0).flatten)) from by
  rw [show sortE (slotsE a ++ a.sh ++ (a.loc.take 0).flatten) = sortE (sortE (slotsE a) ++ a.sh) from by
   rw [List.take_zero, List.flatten_nil, List.append_nil]; exact sortE_of_perm ((sortE_perm _).symm.append_right _)]
  exact V_to (Kd.R_V (base' := 0) hv4) (fun k hk => Nat.le_trans HB3.out.size hk))
 have hp4 := pw_cell_below HB4.out HP.out
 clear hv4 hb4
 go_wp2
 go_loopw [3, 17] (fun s i wr => ∃ m : Nat, m ≤ a.loc.length ∧ i = .int .i64 m ∧ Aside0 (Kd.V k29 29 wr w.heap.size (fun k => w.heap.size ≤ k) s (sortE (slotsE a ++ a.sh ++ (a.loc.take m).flatten))) ∧ Aside0 (Below w.heap.size w wr)) (fun _ i _ => a.loc.length - (intOf i).toNat)
 case atStart => exact ⟨0, Nat.zero_le _, rfl, HX, HB4⟩
 case round =>
  obtain ⟨m, hm, rfl, HR1, HB⟩ := hrel
  by_cases hlt : m < a.loc.length
  · obtain ⟨mm, hmm⟩ : ∃ mm, q.ms[m]? = some mm := ⟨_, List.getElem?_eq_getElem (by have := HLE.out; omega)⟩
    have HMM := Aside0.mk hmm
    have x1 := pw_cell_below HB.out (HR.out m mm hmm)
    have HLM := Aside0.mk (HH2.out.cntL hmm)
    have HGM := Aside0.mk (HH2.out.good mm (List.mem_of_getElem? hmm))
    have HNM := Aside0.mk (good_len HGM.out (by have := HLM.out; omega))
    have HOW := Aside0.mk ((HH1.out.below HB.out 11 (by have := HH1.out.few; omega)).ow m mm hmm)
    obtain ⟨L1, hL1⟩ : ∃ L1, L1 = sortE (slotsE a ++ a.sh ++ (a.loc.take m).flatten) := ⟨_, rfl⟩
    obtain ⟨L2, hL2⟩ : ∃ L2, L2 = sortE (allB mm.bs) := ⟨_, rfl⟩
    have HEQ := Aside0.mk (show sortE (slotsE a ++ a.sh ++ (a.loc.take (m + 1)).flatten) = sortE (L1 ++ L2) by
     rw [locs_take a.loc m hlt, HH2.out.at_ hmm, ← List.append_assoc, hL1, hL2]
     exact sortE_of_perm ((sortE_perm _).symm.append_right _))
    have HLS := Aside0.mk (show L1.length + L2.length ≤ 1900 by
     rw [hL1, hL2, sortE_length, sortE_length, List.length_append, List.length_append]
     have := locs_take_le a.loc m
     have := HSE.out
     have := HC.out
     have := HLM.out
     omega)
    rw [← hL1] at HR1
    have HMT := Aside0.mk (merge_told 3000000 L1 L2 (by rw [hL1]; exact sortE_sorted _) (by rw [hL2]; exact sortE_sorted _) (by have := HLS.out; omega) (by have := HLS.out; omega))
    have HL2 := Aside0.mk hL2
    obtain ⟨A5, c5, e5⟩ := Kd.V_slice HR1.out
    subst e5
    clear hmm hL1 hL2
    go_wp2_with fail
    refine (@lsm_all (XO (upO who 11 w.heap.size) (m + 3) wr.heap.size) _ _ _ _ _ HOW.out.1 HGM.out.snd (by have := HNM.out; have := HLM.out; omega) (by have := HLM.out; omega)).mono ?_
    rintro e w6 ⟨v6, rfl, hv6, hb6⟩
    rw [← HL2.out] at hv6
    obtain ⟨A6, c6, rfl⟩ := Kd.V_slice hv6
    have HB6 := Aside0.mk (below_step HB.out hb6)
    have HV6 := Aside0.mk hv6
    have HR6 := Aside0.mk (Kd.V_below HR1.out hb6)
    clear hv6 hb6
    go_wp2_with fail
    refine (entry_Merge.calls 3000000 _ A5 c5 L1 _ A6 c6 L2 _ w6 (V_to HR6.out (fun _ hk => hk)) (V_to HV6.out (fun _ hk => hk)) HMT.out).mono ?_
    rintro e w7 ⟨v7, rfl, hv7, hb7⟩
    have HB7 := Aside0.mk (below_step HB6.out hb7)
    have HR7 := Aside0.mk hv7
    clear hv7 hb7
    go_wp2
    go_roundw
    case rel => exact ⟨m + 1, by omega, by go_num, ⟨by rw [HEQ.out]; exact V_to (Kd.R_V (base' := 0) HR7.out) (fun k hk => Nat.le_trans HB6.out.size hk)⟩, HB7⟩
    case measure => simp [intOf]; omega
  · obtain rfl : m = a.loc.length := by omega
    rw [List.take_length] at HR1
    have HR2 := Aside0.mk (show Kd.V k29 29 wr w.heap.size (fun k => w.heap.size ≤ k) _ (allQ a) from HR1.out)
    clear HR1
    obtain ⟨A5, c5, e5⟩ := Kd.V_slice HR2.out
    subst e5
    have HC1 := Aside0.mk (Kd.V_reads' HR2.out).2.1
    have HM := Aside0.mk (show (allQ a).length ≤ 9223372036854775807 by have := allQ_le a; have := HC.out; omega)
    have HV := Aside0.mk (show Kd.V k29 29 wr w.heap.size (fun k => w.heap.size ≤ k) (.slice A5 (allQ a).length (allQ a).length) (allQ a) from Kd.V_mk (Nat.le_refl _) (Kd.V_F HR2.out))
    go_wp2_with (first | (go_at_call 43; (refine (clip_exact A5 (allQ a).length c5 _ HC1.out HM.out).mono ?_); rintro e w9 ⟨rfl, rfl⟩))
    go_ret
    exact ⟨_, rfl, HV.out, HB.out⟩
set_option maxHeartbeats 400000 in
theorem qk_len {w0 w : World} {pq : Nat} {a : Qa} {n : Nat} {B : List (Nat × Obj)} (h : QOk w0 w pq a n B) (hn : n ≤ 900) :
 Calls Try.prog 12 #[.pointer (some ⟨pq, 0, none⟩)] w fun e w' => e = .returned (.int .i64 (allQ a).length) ∧ Below w.heap.size w w' := by
 have HQ := Aside0.mk h
 clear h
 go_enter Try.func12, Try.ntmps12
 go_wp2_with fail
 refine (qk_all HQ.out hn).mono ?_
 rintro e w1 ⟨v1, rfl, hv1, hb1⟩
 obtain ⟨A1, c1, rfl⟩ := Kd.V_slice hv1
 have HB1 := Aside0.mk hb1
 clear hv1 hb1
 go_wp2
 go_ret
 exact ⟨rfl, HB1.out⟩
theorem one_CL {W : World} {g c : Nat} {A : Option Addr} {l : List E} (h : W.heap[g]? = some (.cells #[.slice A l.length c] 30 (0, 0))) (hc : l.length ≤ c) (hC : k29.C W A l.length l) : Kd.C (Kd.slice 29 k29) W (some ⟨g, 0, none⟩) ([l] : List (List E)).length [l] := by
 refine ⟨rfl, by simp, fun _ => ⟨_, rfl, fun j p hj => ?_⟩⟩
 rcases j with _ | j
 · simp only [List.length_singleton, List.getElem?_cons_zero, Option.some.injEq] at hj
   subst hj
   refine ⟨[.slice A l.length c], rfl, ⟨A, c, rfl, hc, hC⟩, fun i u hi => ?_⟩
   rcases i with _ | i
   · simp only [List.getElem?_cons_zero, Option.some.injEq] at hi
     subst hi
     exact (blk_cell h 0).trans rfl
   · simp at hi
 · simp at hj
def leastV (l : List E) : Int × Int × Int × Bool := match l with | [] => (0, 0, 0, false) | e :: _ => (e.f0, e.f1, 0, true)
theorem least_one (k : Nat) (hk : 3 ≤ k) (l : List E) (hl : l.length ≤ 1000000) : entry_Least.f k [l] = some (leastV l) := by
 obtain ⟨k, rfl⟩ : ∃ j, k = j + 3 := ⟨k - 3, by omega⟩
 have r0 : rd_L5 [l] 0 = l := rfl
 have w0 : wrap64 (0 + 1) = 1 := by rw [wrap_id (by omega) (by omega)]; rfl
 unfold entry_Least.f
 cases l with
 | nil =>
  simp only [entry_Least.l0, r0, w0]
  simp [leastV]
 | cons e t =>
  have h1 : ((e :: t : List E).length : Int) > 0 := by simp only [List.length_cons]; omega
  have r1 : rd_T29 (e :: t) 0 = e := rfl
  simp only [entry_Least.l0, r0, w0, h1, r1]
  simp [leastV]
end Go.Proofs.Ythghkglkifeagaa.V
end
section
set_option linter.unusedVariables false
set_option linter.unusedSimpArgs false
namespace Go.Proofs.Ythghkglkifeagaa.V
open Go.RowKit Go.Proofs.YthghkglkifeagaaW.PrintWords Go.Proofs.YthghkglkifeagaaW.PrintLast Go.Proofs.YthghkglkifeagaaW.PrintMore
def optV (o : Option E) : Value × Bool := match o with | none => (.agg #[.int .u64 0, .int .i64 0], false) | some e => (.agg #[.int .u64 e.f0, .int .i64 e.f1], true)
def retV (o : Option E) : Value := .tuple #[(optV o).1, .bool (optV o).2]
structure ZBox (w wr : World) (g : Nat) : Prop where
  at_ : wr.heap[g]? = some (.cells #[.int .u64 0, .int .i64 0] 29 (0, 0))
  lo : w.heap.size ≤ g
  bel : Below w.heap.size w wr
theorem ZBox.below {w wr w1 : World} {g : Nat} (h : ZBox w wr g) (hb : Below wr.heap.size wr w1) : ZBox w w1 g := ⟨blk_below h.at_ hb, h.lo, below_step h.bel hb⟩
theorem ZBox.first (w : World) : ZBox w (w.alloc (.cells #[.int .u64 0, .int .i64 0] 29)) w.heap.size := ⟨heap_alloc_new w _, Nat.le_refl _, below_alloc (Below.refl _ _) _⟩
theorem ZBox.facts {w wr : World} {g : Nat} (h : ZBox w wr g) : wr.cell? ⟨g, 0, none⟩ = some (.int .u64 0) ∧ wr.cell? ⟨g, 1, none⟩ = some (.int .i64 0) ∧ wr.frozen? ⟨g, 0, none⟩ = false ∧ wr.frozen? ⟨g, 1, none⟩ = false :=
 ⟨(blk_cell h.at_ 0).trans rfl, (blk_cell h.at_ 1).trans rfl, frozen_row h.at_ 0, frozen_row h.at_ 1⟩
theorem ZBox.done {w wr : World} {g : Nat} (h : ZBox w wr g) (x y : Value) : Below w.heap.size w ((wr.setCell ⟨g, 0, none⟩ x).setCell ⟨g, 1, none⟩ y) := (h.bel.setCell h.lo _).setCell h.lo _
set_option maxRecDepth 100000 in
set_option maxHeartbeats 2000000 in
theorem qk_least {w0 w : World} {pq : Nat} {a : Qa} {n : Nat} {B : List (Nat × Obj)} (h : QOk w0 w pq a n B) (hn : n ≤ 900) :
 Calls Try.prog 16 #[.pointer (some ⟨pq, 0, none⟩)] w fun e w' => e = .returned (retV (allQ a).head?) ∧ Below w.heap.size w w' := by
 have HQ := Aside0.mk (h.below (ZBox.first w).bel)
 have HZ := Aside0.mk (ZBox.first w)
 obtain ⟨l, hl⟩ : ∃ l, allQ a = l := ⟨_, rfl⟩
 have HL := Aside0.mk hl
 rw [hl]
 have HLA := Aside0.mk (show l.length ≤ 1000000 by rw [← hl]; have := allQ_le a; have := h.cnt; have := h.few; omega)
 clear h hl
 go_enter Try.func16, Try.ntmps16
 go_wp2_with fail
 refine (qk_all HQ.out hn).mono ?_
 rintro e w1 ⟨v1, rfl, hv1, hb1⟩
 rw [HL.out] at hv1
 obtain ⟨A1, c1, rfl⟩ := Kd.V_slice hv1
 have HZ1 := Aside0.mk (HZ.out.below hb1)
 have HV1 := Aside0.mk (Kd.V_reads' hv1)
 clear hv1 hb1
 have HX := Aside0.mk (heap_alloc_new w1 (.cells #[.slice A1 l.length c1] 30))
 have HB2 := Aside0.mk (below_alloc (Below.refl w1.heap.size w1) (.cells #[.slice A1 l.length c1] 30))
 have HCL := Aside0.mk (one_CL HX.out HV1.out.2.1 (Kd.C_below HV1.out.2.2 HB2.out))
 have HZ2 := Aside0.mk (HZ1.out.below HB2.out)
 have HLO := Aside0.mk (least_one 10 (by omega) (l) HLA.out)
 go_wp2_with fail
 cases l with
 | nil =>
  refine (entry_Least.calls 10 _ 1 _ _ _ _ _ _ HCL.out (Nat.le_refl _) HLO.out).mono ?_
  rintro e w3 ⟨rfl, hb3⟩
  have HZ3 := Aside0.mk (HZ2.out.below hb3)
  have HZ4 := Aside0.mk (HZ3.out.below (below_alloc (Below.refl w3.heap.size w3) (.cells #[.int .u64 0, .int .i64 0] 29)))
  obtain ⟨x0, x1, y0, y1⟩ := HZ4.out.facts
  clear hb3
  go_wp2
  exact bodyPost_ret (v := retV none) (by simp [results, Try.results16, go_sem, x0, x1, retV, optV]) rfl ⟨rfl, HZ4.out.done _ _⟩
 | cons e0 t =>
  refine (entry_Least.calls 10 _ 1 _ _ _ _ _ _ HCL.out (Nat.le_refl _) HLO.out).mono ?_
  rintro e w3 ⟨rfl, hb3⟩
  have HZ3 := Aside0.mk (HZ2.out.below hb3)
  have HZ4 := Aside0.mk (HZ3.out.below (below_alloc (Below.refl w3.heap.size w3) (.cells #[.int .u64 e0.f0, .int .i64 e0.f1] 29)))
  obtain ⟨x0, x1, y0, y1⟩ := HZ4.out.facts
  clear hb3
  go_wp2
  exact bodyPost_ret (v := retV (some e0)) (by simp [results, Try.results16, go_sem, x0, x1, retV, optV]) rfl ⟨rfl, HZ4.out.done _ _⟩
end Go.Proofs.Ythghkglkifeagaa.V
end
section
set_option linter.unusedVariables false
set_option linter.unusedSimpArgs false
namespace Go.Proofs.Ythghkglkifeagaa.V
open Go.RowKit Go.Proofs.YthghkglkifeagaaW.PrintWords Go.Proofs.YthghkglkifeagaaW.PrintLast Go.Proofs.YthghkglkifeagaaW.PrintMore
theorem sortE_one (e : E) : sortE [e] = [e] := sortE_of_sorted (by simp [SortedE])
theorem aw1 : putQ (newA 2 1) 0 ⟨5, 1⟩ = ⟨1, [some ⟨5, 1⟩, none], [[], []], []⟩ := by simp [putQ, settleQ, slotQ, newA, List.replicate]
theorem aw2 : putQ ⟨1, [some ⟨5, 1⟩, none], [[], []], []⟩ 0 ⟨3, 2⟩ = ⟨1, [some ⟨3, 2⟩, none], [[⟨5, 1⟩], []], []⟩ := by simp [putQ, settleQ, slotQ, settleA, sortE_one]
theorem aw3 : allQ ⟨1, [some ⟨3, 2⟩, none], [[⟨5, 1⟩], []], []⟩ = [⟨3, 2⟩, ⟨5, 1⟩] := by
 unfold allQ slotsE
 refine sortE_eq ?_ ?_
 · simp [SortedE, leE, ltE]
 · simp
theorem aw4 : whereQ ⟨1, [some ⟨3, 2⟩, none], [[⟨5, 1⟩], []], []⟩ 1 = (2, 0) := by decide
set_option maxRecDepth 100000 in
set_option maxHeartbeats 4000000 in
theorem awake10 (w : World) : Calls Try.prog 14 #[] w fun e w' => e = .returned (.bool true) ∧ Below w.heap.size w w' := by
 go_enter Try.func14, Try.ntmps14
 go_wp2_with fail
 refine (q_new 2 1 w (by omega) (by omega) (by omega)).mono ?_
 rintro e w1 ⟨pq, rfl, h1⟩
 have H1 := Aside0.mk h1
 clear h1
 go_wp2_with fail
 refine (qk_put H1.out (by omega) 0 (by decide) ⟨5, 1⟩).mono ?_
 rintro e w2 ⟨rfl, h2⟩
 rw [aw1] at h2
 have H2 := Aside0.mk h2
 clear h2
 go_wp2_with fail
 refine (qk_put H2.out (by omega) 0 (by decide) ⟨3, 2⟩).mono ?_
 rintro e w3 ⟨rfl, h3⟩
 rw [aw2] at h3
 have H3 := Aside0.mk h3
 clear h3
 go_wp2_with fail
 refine (qk_least H3.out (by omega)).mono ?_
 rintro e w4 ⟨he, h4⟩
 rw [aw3] at he
 obtain rfl : e = .returned (.tuple #[.agg #[.int .u64 3, .int .i64 2], .bool true]) := he
 have hb4 := below_alloc (Below.refl w4.heap.size w4) (.cells #[.int .u64 3, .int .i64 2] 29)
 have H4 := Aside0.mk ((H3.out.below h4).below hb4)
 have HX := Aside0.mk (heap_alloc_new w4 (.cells #[.int .u64 3, .int .i64 2] 29))
 clear h4 hb4
 go_wp2_with fail
 refine (qk_where H4.out (by omega) 1).mono ?_
 rintro e w5 ⟨he, h5⟩
 rw [aw4] at he
 obtain rfl : e = .returned (.tuple #[.int .i64 2, .int .i64 0]) := he
 have H5 := Aside0.mk (H4.out.below h5)
 have hx := blk_below HX.out h5
 have x0 : w5.cell? ⟨w4.heap.size, 0, none⟩ = some (.int .u64 3) := (blk_cell hx 0).trans rfl
 have x1 : w5.cell? ⟨w4.heap.size, 1, none⟩ = some (.int .i64 2) := (blk_cell hx 1).trans rfl
 clear h5 hx HX
 go_wp2_with fail
 refine (qk_len H5.out (by omega)).mono ?_
 rintro e w6 ⟨he, h6⟩
 rw [aw3] at he
 obtain rfl : e = .returned (.int .i64 2) := he
 have HB := Aside0.mk (H5.out.below h6).bel
 clear h6 x0 x1
 go_wp2
 go_ret
 exact ⟨by first | rfl | simp, HB.out⟩
end Go.Proofs.Ythghkglkifeagaa.V
end
section
set_option linter.unusedVariables false
set_option linter.unusedSimpArgs false
namespace Go.Proofs.Ythghkglkifeagaa.V
open Go.RowKit Go.Proofs.YthghkglkifeagaaW.PrintWords Go.Proofs.YthghkglkifeagaaW.PrintLast Go.Proofs.YthghkglkifeagaaW.PrintMore
theorem mod_next (m c : Nat) (hc : 0 < c) : (m + 1) % c = if m % c + 1 = c then 0 else m % c + 1 := by
 have h1 := Nat.div_add_mod m c
 have h2 := Nat.mod_lt m hc
 have h3 : (m + 1) % c = (m % c + 1) % c := by
  conv => lhs; rw [← h1, Nat.add_assoc, Nat.mul_add_mod]
 rw [h3]
 by_cases h : m % c + 1 = c
 · rw [if_pos h, h, Nat.mod_self]
 · rw [if_neg h, Nat.mod_eq_of_lt (by omega)]
theorem put_empty {a : Qa} {sr : List (Option E)} (hS : a.S = none :: sr) (e : E) : putQ a 0 e = ⟨a.k, some e :: sr, a.loc, a.sh⟩ := by
 have : slotQ a 0 = none := by unfold slotQ; rw [hS]; rfl
 unfold putQ
 rw [settle_none this, hS]
 rfl
theorem settle_zero {a : Qa} {e : E} {l0 : List E} {rest : List (List E)} {sr : List (Option E)} (hS : a.S = some e :: sr) (hl : a.loc = l0 :: rest) :
 settleQ a 0 = if l0.length + 1 ≤ a.k then ⟨a.k, none :: sr, sortE (e :: l0) :: rest, a.sh⟩ else ⟨a.k, none :: sr, [] :: rest, sortE (sortE (e :: l0) ++ a.sh)⟩ := by
 have h1 : slotQ a 0 = some e := by unfold slotQ; rw [hS]; rfl
 unfold settleQ
 rw [h1]
 unfold settleA
 rw [hS, hl]
 rfl
structure Spill (a : Qa) (k m : Nat) (o : Option E) (sr : List (Option E)) (rest : List (List E)) : Prop where
  k_ : a.k = k
  S : a.S = o :: sr
  loc : ∃ l0, a.loc = l0 :: rest ∧ l0.length = m % (k + 1)
  sh : a.sh.length = m - m % (k + 1)
theorem Spill.settle {a : Qa} {k m : Nat} {e : E} {sr : List (Option E)} {rest : List (List E)} (h : Spill a k m (some e) sr rest) : Spill (settleQ a 0) k (m + 1) none sr rest := by
 obtain ⟨l0, hl, h0⟩ := h.loc
 have hs := h.sh
 have hk := h.k_
 have hm := mod_next m (k + 1) (by omega)
 have hle := Nat.mod_le m (k + 1)
 have hlt := Nat.mod_lt m (show 0 < k + 1 by omega)
 rw [settle_zero h.S hl]
 by_cases hc : l0.length + 1 ≤ a.k
 · rw [if_pos hc]
   rw [if_neg (by omega)] at hm
   exact ⟨hk, rfl, ⟨_, rfl, by rw [sortE_length, List.length_cons, hm, h0]⟩, by show a.sh.length = _; omega⟩
 · rw [if_neg hc]
   rw [if_pos (by omega)] at hm
   exact ⟨hk, rfl, ⟨_, rfl, by rw [hm]; rfl⟩, by show (sortE (sortE (e :: l0) ++ a.sh)).length = _; rw [sortE_length, List.length_append, sortE_length, List.length_cons]; omega⟩
theorem Spill.put {a : Qa} {k m : Nat} {sr : List (Option E)} {rest : List (List E)} (h : Spill a k m none sr rest) (e : E) : Spill (putQ a 0 e) k m (some e) sr rest := by
 rw [put_empty h.S]
 exact ⟨h.k_, rfl, h.loc, h.sh⟩
theorem Spill.put_some {a : Qa} {k m : Nat} {e0 : E} {sr : List (Option E)} {rest : List (List E)} (h : Spill a k m (some e0) sr rest) (e : E) : Spill (putQ a 0 e) k (m + 1) (some e) sr rest := by
 have h1 := h.settle
 unfold putQ
 exact ⟨h1.k_, by show (settleQ a 0).S.set 0 (some e) = _; rw [h1.S]; rfl, h1.loc, h1.sh⟩
theorem Spill.new (n k : Nat) : Spill (newA (n + 1) k) k 0 none (List.replicate n none) (List.replicate n []) := ⟨rfl, rfl, ⟨[], rfl, by simp⟩, by simp [newA]⟩
end Go.Proofs.Ythghkglkifeagaa.V
end
section
set_option linter.unusedVariables false
set_option linter.unusedSimpArgs false
namespace Go.Proofs.Ythghkglkifeagaa.V
open Go.RowKit Go.Proofs.YthghkglkifeagaaW.PrintWords Go.Proofs.YthghkglkifeagaaW.PrintLast Go.Proofs.YthghkglkifeagaaW.PrintMore
theorem and_maskL (x : Int) (m : Nat) (hm : m < 4611686018427387904) : 0 ≤ Go.bits .and .i64 x (m : Int) ∧ Go.bits .and .i64 x (m : Int) ≤ (m : Int) := by
 have h2 : (BitVec.ofInt 64 (m : Int)).toNat = m := by
  rw [BitVec.ofInt_natCast, BitVec.toNat_ofNat]; exact Nat.mod_eq_of_lt (by omega)
 have h3 : ((BitVec.ofInt 64 x) &&& (BitVec.ofInt 64 (m : Int))).toNat ≤ m := by
  rw [BitVec.toNat_and, h2]
  exact Nat.and_le_right
 show 0 ≤ IntKind.i64.wrap ((BitVec.ofInt 64 x &&& BitVec.ofInt 64 (m : Int)).toNat : Int) ∧ IntKind.i64.wrap ((BitVec.ofInt 64 x &&& BitVec.ofInt 64 (m : Int)).toNat : Int) ≤ _
 rw [i64_w]
 unfold wrap64
 omega
end Go.Proofs.Ythghkglkifeagaa.V
end
section
set_option linter.unusedVariables false
set_option linter.unusedSimpArgs false
namespace Go.Proofs.Ythghkglkifeagaa.V
open Go.RowKit Go.Proofs.YthghkglkifeagaaW.PrintWords Go.Proofs.YthghkglkifeagaaW.PrintLast Go.Proofs.YthghkglkifeagaaW.PrintMore
theorem q_newZ (z k : Nat) (w : World) (h1 : z ≤ 7) (hk : k ≤ 16) :
 Calls Try.prog 6 #[.int .i64 ((z : Int) + 1), .int .i64 k] w fun e w' => ∃ pq, e = .returned (.tuple #[.pointer (some ⟨pq, 0, none⟩), .int .i64 0]) ∧ QOk w w' pq (newA (z + 1) k) 0 [] := by
 have := q_new (z + 1) k w (by omega) (by omega) hk
 rwa [show ((z + 1 : Nat) : Int) = (z : Int) + 1 from by push_cast; rfl] at this
theorem nones (z : Nat) : (List.replicate z (none : Option E)).filterMap id = [] := by
 induction z with
 | zero => rfl
 | succ z ih => rw [List.replicate_succ, List.filterMap_cons_none rfl, ih]
theorem nils (z : Nat) : sumL (List.replicate z ([] : List E)) = 0 := by unfold sumL; rw [List.map_replicate]; simp
theorem Spill.count {a : Qa} {k m z : Nat} {o : Option E} (h : Spill a k m o (List.replicate z none) (List.replicate z [])) : (allQ a).length = m + (if o.isSome = true then 1 else 0) ∧ slotsE a = o.toList := by
 obtain ⟨l0, hl, h0⟩ := h.loc
 have hs := h.sh
 have hle := Nat.mod_le m (k + 1)
 have h1 : slotsE a = o.toList := by
  unfold slotsE
  rw [h.S]
  cases o with
  | none => exact nones z
  | some e =>
   show e :: (List.replicate z (none : Option E)).filterMap id = [e]
   rw [nones]
 refine ⟨?_, h1⟩
 unfold allQ
 rw [sortE_length, List.length_append, List.length_append, locs_len, hl, h1]
 have h2 : sumL (l0 :: List.replicate z []) = l0.length := by
  have := nils z
  unfold sumL at this ⊢
  rw [uo, List.sum_cons, this]
  rfl
 rw [h2]
 cases o with
 | none => simp; omega
 | some e => simp; omega
structure SpSt (w wr : World) (pq k z m : Nat) : Prop where
  ex : ∃ a, QOk w wr pq a (2 * m) [] ∧ (m = 0 → Spill a k 0 none (List.replicate z none) (List.replicate z [])) ∧ (0 < m → ∃ e, Spill a k (m - 1) (some e) (List.replicate z none) (List.replicate z []))
theorem where_zero {a : Qa} {e : E} {sr : List (Option E)} (hS : a.S = some e :: sr) (id : Int) (h : e.f1 = id) : whereQ a id = (1, 0) :=
 where_slot (o := some e) (by rw [hS]; rfl) (decide_eq_true h) (fun j b hj => by omega)
set_option maxRecDepth 100000 in
set_option maxHeartbeats 4000000 in
theorem queueSpills_walk (x y u : Int) (w : World) :
 Calls Try.prog 3 #[.int .i64 x, .int .i64 y, .int .i64 u] w fun e w' => e = .returned (.bool true) ∧ Below w.heap.size w w' := by
 have hx := and_maskL x 7 (by omega)
 rw [show ((7 : Nat) : Int) = 7 from rfl] at hx
 obtain ⟨z, hz⟩ : ∃ z : Nat, bits BinOp.and IntKind.i64 x 7 = (z : Int) := ⟨(bits BinOp.and IntKind.i64 x 7).toNat, by omega⟩
 have hz7 : z ≤ 7 := by omega
 have hy := and_maskL y 15 (by omega)
 rw [show ((15 : Nat) : Int) = 15 from rfl] at hy
 obtain ⟨k, hk⟩ : ∃ k : Nat, bits BinOp.and IntKind.i64 y 15 = (k : Int) := ⟨(bits BinOp.and IntKind.i64 y 15).toNat, by omega⟩
 have hk15 : k ≤ 15 := by omega
 have hu := and_maskL u 63 (by omega)
 rw [show ((63 : Nat) : Int) = 63 from rfl] at hu
 obtain ⟨N, hN⟩ : ∃ N : Nat, bits BinOp.and IntKind.i64 u 63 = (N : Int) := ⟨(bits BinOp.and IntKind.i64 u 63).toNat, by omega⟩
 have hN63 : N ≤ 63 := by omega
 clear hx hy hu
 go_enter Try.func3, Try.ntmps3
 go_wp2_with fail
 refine (q_newZ z k w hz7 (by omega)).mono ?_
 rintro q w1 ⟨pq, rfl, h1⟩
 have HD := Aside0.mk (show SpSt w w1 pq k z 0 from ⟨⟨_, h1, fun _ => Spill.new z k, fun h => by omega⟩⟩)
 clear h1 hk hz hN
 go_wp2_with fail
 go_loopw [9] (fun i wr => ∃ m : Nat, m ≤ N ∧ i = .int .i64 ((m : Int) + 1) ∧ Aside0 (SpSt w wr pq k z m)) (fun i _ => N + 1 - (intOf i).toNat)
 case atStart => exact ⟨0, Nat.zero_le _, rfl, HD⟩
 case round =>
  clear HD
  obtain ⟨m, hm, rfl, HR⟩ := hrel
  obtain ⟨a, hq, hs0, hs1⟩ := HR.out.ex
  have HQ := Aside0.mk hq
  have HS0 := Aside0.mk hs0
  have HS1 := Aside0.mk hs1
  have HF := Aside0.mk hq.few
  clear hq hs0 hs1
  by_cases hlt : m < N
  · have hlt2 : (m : Int) + 1 ≤ (N : Int) := by omega
    have s1 : IntKind.i64.wrap (100 - ((m : Int) + 1)) = 100 - ((m : Int) + 1) := IntWalk.i64_in _ (by omega)
    have s2 : IntKind.u64.wrap (100 - ((m : Int) + 1)) = 100 - ((m : Int) + 1) := IntWalk.u64_in _ (by omega)
    have HBD := Aside0.mk (show 2 * m + 1 ≤ 800 by omega)
    go_wp2_with fail
    refine (qk_put HQ.out (by have := HBD.out; omega) 0 (by have := HF.out; omega) ⟨100 - ((m : Int) + 1), (m : Int) + 1⟩).mono ?_
    rintro q w2 ⟨rfl, h2⟩
    have HQ2 := Aside0.mk h2
    have HS2 := Aside0.mk (show Spill (putQ a 0 ⟨100 - ((m : Int) + 1), (m : Int) + 1⟩) k m (some ⟨100 - ((m : Int) + 1), (m : Int) + 1⟩) (List.replicate z none) (List.replicate z []) by
     rcases Nat.eq_zero_or_pos m with h0 | h0
     · have := (HS0.out h0).put ⟨100 - ((m : Int) + 1), (m : Int) + 1⟩
       rw [h0] at this ⊢
       exact this
     · obtain ⟨e, he⟩ := HS1.out h0
       have := he.put_some ⟨100 - ((m : Int) + 1), (m : Int) + 1⟩
       rwa [show m - 1 + 1 = m by omega] at this)
    clear h2
    obtain ⟨a2, ha2⟩ : ∃ a2, a2 = putQ a 0 ⟨100 - ((m : Int) + 1), (m : Int) + 1⟩ := ⟨_, rfl⟩
    rw [← ha2] at HQ2 HS2
    clear ha2 s1 s2
    obtain ⟨l0, hl0, hl1⟩ := HS2.out.loc
    have hsh := HS2.out.sh
    obtain ⟨r, hr⟩ : ∃ r, m % (k + 1) = r := ⟨_, rfl⟩
    have hrm : r ≤ m := by rw [← hr]; exact Nat.mod_le _ _
    obtain ⟨s, hs⟩ : ∃ s, m - r = s := ⟨_, rfl⟩
    rw [hr] at hl1 hsh
    rw [hs] at hsh
    have r1 : (m : Int).tmod ((k : Int) + 1) = (r : Int) := by rw [Int.tmod_eq_emod_of_nonneg (by omega), ← hr]; rfl
    have r2 : (m : Int) % ((k : Int) + 1) = (r : Int) := by rw [← hr]; rfl
    have r4 : ¬ ((k : Int) + 1 = 0) := by omega
    have r6 : ((k : Int) + 1 == 0) = false := by rw [beq_eq_false_iff_ne]; omega
    have r7 : IntKind.i64.wrap ((m : Int) - (r : Int)) = (s : Int) := by rw [show (m : Int) - (r : Int) = (s : Int) by omega]; exact IntWalk.i64_in _ (by omega)
    have r8 : (m : Int) + 1 - 1 = (m : Int) := by omega
    have r9 : IntKind.i64.wrap ((k : Int) + 1) = (k : Int) + 1 := IntWalk.i64_in _ (by omega)
    have HSLOT := Aside0.mk (show ∀ W, Below w2.heap.size w2 W → Calls Try.prog 8 #[.pointer (some ⟨pq, 0, none⟩)] W fun e w' => (∃ A c, e = .returned (.slice A 1 c)) ∧ Below W.heap.size W w' from fun W hb => by
     refine (qk_slots (HQ2.out.below hb)).mono ?_
     rintro e w' ⟨v, rfl, hv, hb'⟩
     rw [HS2.out.count.2] at hv
     obtain ⟨A, c, rfl⟩ := Kd.V_slice hv
     exact ⟨⟨A, c, rfl⟩, hb'⟩)
    have HLOC := Aside0.mk (show ∀ W, Below w2.heap.size w2 W → Calls Try.prog 9 #[.pointer (some ⟨pq, 0, none⟩), .int .i64 0] W fun e w' => (∃ A c, e = .returned (.slice A r c)) ∧ Below W.heap.size W w' from fun W hb => by
     refine (qk_local (HQ2.out.below hb) (by have := HBD.out; omega) 0 (by have := HQ2.out.few; omega)).mono ?_
     rintro e w' ⟨v, rfl, hv, hb'⟩
     rw [hl0] at hv
     obtain ⟨A, c, rfl⟩ := Kd.V_slice hv
     exact ⟨⟨A, c, by rw [← hl1]; rfl⟩, hb'⟩)
    have HSHR := Aside0.mk (show ∀ W, Below w2.heap.size w2 W → Calls Try.prog 10 #[.pointer (some ⟨pq, 0, none⟩)] W fun e w' => (∃ A c, e = .returned (.slice A s c)) ∧ Below W.heap.size W w' from fun W hb => by
     refine (qk_shared (HQ2.out.below hb) (by have := HBD.out; omega)).mono ?_
     rintro e w' ⟨v, rfl, hv, hb'⟩
     obtain ⟨A, c, rfl⟩ := Kd.V_slice hv
     exact ⟨⟨A, c, by rw [hsh]⟩, hb'⟩)
    have HWH := Aside0.mk (where_zero HS2.out.S ((m : Int) + 1) rfl)
    clear hl0 hl1 hsh hr hs
    go_upto_region 11 with fail
    go_cut [72] (fun s72 wx => s72 = .bool false ∧ Aside0 (Below w2.heap.size w2 wx))
    case first =>
     have HB0 := Aside0.mk (show Below w2.heap.size w2 w2.drew from below_drew (Below.refl _ _))
     refine start_ (n := 26) (S := fun w' => True ∧ True) (ds := []) #[xX, xX, xX, xX, xX, xX, xX, xX, xX, xX, xX, xX, xX, xX, xX, xX, xX, xX, xX, xX, xX, xX, xX, xX, xX, xX] (by kernel_rfl) rfl rfl ⟨trivial, trivial⟩ (fun hHeld => ?_)
     refine pU (i := 0) (N := (some 47)) (bA 26 1) (by kernel_rfl) rfl ?_
     refine one_ (i := 1) (N := (some 48)) #[yY, yY, xX, xX, xX, xX, xX, xX, xX, xX, xX, xX, xX, xX, xX, xX, xX, xX, xX, xX, xX, xX, xX, xX, xX, xX] rfl rfl (by kernel_rfl) (by decide) (fun K hK => ?_)
     refine goes_ Try.func8 (by kernel_rfl) rfl #[.pointer (some ⟨pq, 0, none⟩)] (by rfl) rfl rfl (by (try simp only [ul, uo, uq]); first | done | rfl) ?_
     refine (HSLOT.out _ HB0.out).mono ?_
     rintro q w3 ⟨⟨A3, c3, rfl⟩, hb3⟩
     have HB1 := Aside0.mk (vq HB0.out hb3)
     clear hb3
     refine ⟨_, rfl, ?_⟩
     refine hK.out _ _ ⟨trivial, trivial⟩ (fun hHeld => ?_)
     clear hK K
     refine norm_ (a' := ?_) ?_ ?_; rotate_left; (· (show Act.put _ (some 48) _ = _); (simp only [Act.put, ua, ub, uc, uh, ui]); rfl)
     refine pU (i := 2) (N := (some 49)) (bA 26 7) (by kernel_rfl) rfl ?_
     refine pU (i := 3) (N := (some 50)) (bA 26 15) (by kernel_rfl) rfl ?_
     refine pU (i := 4) (N := (some 51)) (bA 26 31) (by kernel_rfl) rfl ?_
     refine pU (i := 5) (N := (some 52)) (bA 26 63) (by kernel_rfl) rfl ?_
     refine pU (i := 8) (N := (some 55)) (bA 26 319) (by kernel_rfl) rfl ?_
     refine pU (i := 9) (N := (some 56)) (bA 26 831) (by kernel_rfl) rfl ?_
     refine pU (i := 10) (N := (some 57)) (bA 26 1855) (by kernel_rfl) rfl ?_
     refine pU (i := 11) (N := (some 58)) (bA 26 3903) (by kernel_rfl) rfl ?_
     refine one_ (i := 6) (N := (some 53)) #[yY, yY, yY, yY, yY, yY, yY, xX, yY, yY, yY, yY, xX, xX, xX, xX, xX, xX, xX, xX, xX, xX, xX, xX, xX, xX] rfl rfl (by kernel_rfl) (by decide) (fun K hK => ?_)
     refine goes_ Try.func9 (by kernel_rfl) rfl #[.pointer (some ⟨pq, 0, none⟩), .int .i64 0] (by rfl) rfl rfl (by (try simp only [ul, uo, uq]); first | done | rfl) ?_
     refine (HLOC.out _ HB1.out).mono ?_
     rintro q w4 ⟨⟨A4, c4, rfl⟩, hb4⟩
     have HB2 := Aside0.mk (vq HB1.out hb4)
     clear hb4
     refine ⟨_, rfl, ?_⟩
     refine hK.out _ _ ⟨trivial, trivial⟩ (fun hHeld => ?_)
     clear hK K
     refine norm_ (a' := ?_) ?_ ?_; rotate_left; (· (show Act.put _ (some 53) _ = _); (simp only [Act.put, ua, ub, uc, uh, ui]); rfl)
     refine pU (i := 7) (N := (some 54)) (bA 26 4095) (by kernel_rfl) rfl ?_
     refine pU (i := 12) (N := (some 59)) (bA 26 8191) (by kernel_rfl) rfl ?_
     refine pU (i := 13) (N := (some 60)) (bA 26 16383) (by kernel_rfl) rfl ?_
     refine pU (i := 14) (N := (some 61)) (bA 26 32767) (by kernel_rfl) rfl ?_
     refine pU (i := 15) (N := (some 62)) (bA 26 65535) (by kernel_rfl) rfl ?_
     refine pU (i := 18) (N := (some 65)) (bA 26 327679) (by kernel_rfl) rfl ?_
     refine pU (i := 19) (N := (some 66)) (bA 26 851967) (by kernel_rfl) rfl ?_
     refine pU (i := 20) (N := (some 67)) (bA 26 1900543) (by kernel_rfl) rfl ?_
     refine pU (i := 21) (N := (some 68)) (bA 26 3997695) (by kernel_rfl) rfl ?_
     refine pU (i := 22) (N := (some 69)) (bA 26 8191999) (by kernel_rfl) rfl ?_
     refine pU (i := 23) (N := (some 70)) (bA 26 16580607) (by kernel_rfl) rfl ?_
     refine one_ (i := 16) (N := (some 63)) #[yY, yY, yY, yY, yY, yY, yY, yY, yY, yY, yY, yY, yY, yY, yY, yY, yY, xX, yY, yY, yY, yY, yY, yY, xX, xX] rfl rfl (by kernel_rfl) (by decide) (fun K hK => ?_)
     refine goes_ Try.func10 (by kernel_rfl) rfl #[.pointer (some ⟨pq, 0, none⟩)] (by rfl) rfl rfl (by (try simp only [ul, uo, uq]); first | done | rfl) ?_
     refine (HSHR.out _ HB2.out).mono ?_
     rintro q w5 ⟨⟨A5, c5, rfl⟩, hb5⟩
     have HB3 := Aside0.mk (vq HB2.out hb5)
     clear hb5
     refine ⟨_, rfl, ?_⟩
     refine hK.out _ _ ⟨trivial, trivial⟩ (fun hHeld => ?_)
     clear hK K
     refine norm_ (a' := ?_) ?_ ?_; rotate_left; (· (show Act.put _ (some 63) _ = _); (simp only [Act.put, ua, ub, uc, uh, ui]); rfl)
     refine pU (i := 17) (N := (some 64)) (bA 26 16777215) (by kernel_rfl) rfl ?_
     refine pU (i := 24) (N := (some 71)) (bA 26 33554431) (by kernel_rfl) rfl ?_
     refine pU (i := 25) (N := (some 72)) (bA 26 67108863) (by kernel_rfl) rfl ?_
     refine done_ (by kernel_rfl) ?_
     go_wp2_with fail
     go_meet
     exact ⟨by first | rfl | simp, HB3⟩
    case rest =>
     obtain ⟨rfl, HB3⟩ := hcut
     have HQ3 := Aside0.mk (HQ2.out.below HB3.out)
     go_wp2_with fail
     refine (qk_where HQ3.out (by have := HBD.out; omega) ((m : Int) + 1)).mono ?_
     rintro q w6 ⟨hq, hb6⟩
     rw [HWH.out] at hq
     obtain rfl : q = .returned (.tuple #[.int .i64 1, .int .i64 0]) := hq
     have HD6 := Aside0.mk (show SpSt w w6 pq k z (m + 1) from ⟨⟨_, (HQ3.out.below hb6).mono (by omega), fun h => by omega, fun _ => ⟨_, HS2.out⟩⟩⟩)
     clear hb6
     go_wp2
     go_roundw
     case rel => exact ⟨m + 1, by omega, by go_num, HD6⟩
     case measure => simp [intOf]; omega
  · obtain rfl : m = N := by omega
    have hlt2 : ¬ ((m : Int) + 1 ≤ (m : Int)) := by omega
    have HBD := Aside0.mk (show 2 * m + 2 ≤ 800 by omega)
    rcases Nat.eq_zero_or_pos m with h0 | h0
    · have HS := Aside0.mk (HS0.out h0)
      have HLN := Aside0.mk (show (allQ a).length = 0 from HS.out.count.1)
      have HSN := Aside0.mk (show slotQ a 0 = none by unfold slotQ; rw [HS.out.S]; rfl)
      subst h0
      go_wp2_with fail
      refine (qk_len HQ.out (by omega)).mono ?_
      rintro q w2 ⟨hq, hb2⟩
      rw [HLN.out] at hq
      obtain rfl : q = .returned (.int .i64 0) := hq
      have HQ2 := Aside0.mk (HQ.out.below hb2)
      clear hb2
      go_wp2_with fail
      refine (qk_settle HQ2.out (by omega) 0 (by have := HF.out; omega)).mono ?_
      rintro q w3 ⟨hq, h3⟩
      rw [HSN.out] at hq
      rw [settle_none HSN.out] at h3
      obtain rfl : q = .returned (.bool false) := hq
      have HQ3 := Aside0.mk h3
      clear h3
      go_wp2_with fail
      refine (qk_settle HQ3.out (by omega) 0 (by have := HF.out; omega)).mono ?_
      rintro q w4 ⟨hq, h4⟩
      rw [HSN.out] at hq
      rw [settle_none HSN.out] at h4
      obtain rfl : q = .returned (.bool false) := hq
      have HQ4 := Aside0.mk h4
      clear h4
      go_wp2_with fail
      refine (qk_len HQ4.out (by omega)).mono ?_
      rintro q w5 ⟨hq, hb5⟩
      rw [HLN.out] at hq
      obtain rfl : q = .returned (.int .i64 0) := hq
      have HQ5 := Aside0.mk (HQ4.out.below hb5)
      clear hb5
      go_wp2_with fail
      refine (awake10 _).mono ?_
      rintro q w6 ⟨rfl, hb6⟩
      have HB6 := Aside0.mk (HQ5.out.below hb6).bel
      clear hb6
      go_wp2
      go_ret
      exact ⟨by first | rfl | simp, HB6.out⟩
    · obtain ⟨e0, he0⟩ := HS1.out h0
      have HS := Aside0.mk he0
      have HLN := Aside0.mk (show (allQ a).length = m by rw [HS.out.count.1]; show m - 1 + 1 = m; omega)
      have HSN := Aside0.mk (show slotQ a 0 = some e0 by unfold slotQ; rw [HS.out.S]; rfl)
      have HT := Aside0.mk (show Spill (settleQ a 0) k m none (List.replicate z none) (List.replicate z []) by have := HS.out.settle; rwa [show m - 1 + 1 = m by omega] at this)
      have HTN := Aside0.mk (show slotQ (settleQ a 0) 0 = none by unfold slotQ; rw [HT.out.S]; rfl)
      have HTL := Aside0.mk (show (allQ (settleQ a 0)).length = m from HT.out.count.1)
      have h00 : (m : Int) > 0 := by omega
      have h01 : (0 : Int) < (m : Int) := by omega
      clear he0
      go_wp2_with fail
      refine (qk_len HQ.out (by have := HBD.out; omega)).mono ?_
      rintro q w2 ⟨hq, hb2⟩
      rw [HLN.out] at hq
      obtain rfl := hq
      have HQ2 := Aside0.mk (HQ.out.below hb2)
      clear hb2
      go_wp2_with fail
      refine (qk_settle HQ2.out (by have := HBD.out; omega) 0 (by have := HF.out; omega)).mono ?_
      rintro q w3 ⟨hq, h3⟩
      rw [HSN.out] at hq
      obtain rfl : q = .returned (.bool true) := hq
      have HQ3 := Aside0.mk h3
      clear h3
      go_wp2_with fail
      refine (qk_settle HQ3.out (by have := HBD.out; omega) 0 (by have := HQ3.out.few; omega)).mono ?_
      rintro q w4 ⟨hq, h4⟩
      rw [HTN.out] at hq
      rw [settle_none HTN.out] at h4
      obtain rfl : q = .returned (.bool false) := hq
      have HQ4 := Aside0.mk h4
      clear h4
      go_wp2_with fail
      refine (qk_len HQ4.out (by have := HBD.out; omega)).mono ?_
      rintro q w5 ⟨hq, hb5⟩
      rw [HTL.out] at hq
      obtain rfl := hq
      have HQ5 := Aside0.mk (HQ4.out.below hb5)
      clear hb5
      go_wp2_with fail
      refine (awake10 _).mono ?_
      rintro q w6 ⟨rfl, hb6⟩
      have HB6 := Aside0.mk (HQ5.out.below hb6).bel
      clear hb6
      go_wp2
      go_ret
      exact ⟨by first | rfl | simp, HB6.out⟩
end Go.Proofs.Ythghkglkifeagaa.V
end
section
set_option linter.unusedVariables false
set_option linter.unusedSimpArgs false
namespace Go.Proofs.Ythghkglkifeagaa.V
open Go.RowKit Go.Proofs.YthghkglkifeagaaW.PrintWords Go.Proofs.YthghkglkifeagaaW.PrintLast Go.Proofs.YthghkglkifeagaaW.PrintMore
def vergerlaw10_QueueSpills.f (a0 : Int) (a1 : Int) (a2 : Int) : Option Bool := some true
theorem vergerlaw10_QueueSpills.calls (a0 : Int) (a1 : Int) (a2 : Int) (r : Bool) (w : World)  (h : vergerlaw10_QueueSpills.f a0 a1 a2 = some r) :
 Calls Try.prog 3 #[.int .i64 a0, .int .i64 a1, .int .i64 a2] w fun e w' => e = .returned (.bool r) ∧ Below w.heap.size w w' := by
 obtain rfl := Option.some.inj h
 exact queueSpills_walk a0 a1 a2 w
theorem QueueSpills_pure (a0 : Int) (a1 : Int) (a2 : Int) {P0 P1 P2 : Prop} (_ : P0) (_ : P1) (_ : P2) : vergerlaw10_QueueSpills.f a0 a1 a2 = some true := rfl
end Go.Proofs.Ythghkglkifeagaa.V
end
