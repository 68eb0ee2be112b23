-- a text of this work, without what this claim doesn't use (wip/shake.py)
import Derived.Test.YthghkglkifeagaaGreatNVPentry1
import Derived.Test.YthghkglkifeagaaGreatNVL6
import Derived.Test.YthghkglkifeagaaGreatNVQ11
import Derived.Test.YthghkglkifeagaaGreatNVQ0
import Derived.IntWalk
section
set_option linter.unusedVariables false
set_option linter.unusedSimpArgs false
namespace Go.Proofs.YthghkglkifeagaaGreat.V
open Go.RowKit Go.Proofs.YthghkglkifeagaaGreatW.PrintWords Go.Proofs.YthghkglkifeagaaGreatW.PrintLast Go.Proofs.YthghkglkifeagaaGreatW.PrintMore
theorem locs_len (l : List (List E)) : l.flatten.length = sumL l := by rw [List.length_flatten]; rfl
theorem locs_take (l : List (List E)) (m : Nat) (h : m < l.length) : (l.take (m + 1)).flatten = (l.take m).flatten ++ l.getD m [] := by
 rw [List.take_succ_eq_append_getElem h, List.flatten_append, List.getD_eq_getElem?_getD, List.getElem?_eq_getElem h]
 simp
theorem locs_take_le (l : List (List E)) (m : Nat) : (l.take m).flatten.length ≤ sumL l := by
 rw [← locs_len l]
 conv => rhs; rw [← List.take_append_drop m l]
 rw [List.flatten_append, List.length_append]
 omega
theorem slots_le (a : Qa) : (slotsE a).length ≤ a.S.length := by unfold slotsE; exact List.length_filterMap_le _ _
theorem allQ_le (a : Qa) : (allQ a).length ≤ a.S.length + a.sh.length + sumL a.loc := by
 unfold allQ
 rw [sortE_length, List.length_append, List.length_append, locs_len]
 have := slots_le a
 omega
theorem V_to {w : World} {b b' : Nat} {ok ok' : Nat → Prop} {v : Value} {l : List E} (h : Kd.V k33 33 w b ok v l) (hk : ∀ k, ok k → ok' k) : Kd.V k33 33 w b' ok' v l := Kd.V_mono (show Kd.V k33 33 w b' ok v l from h) hk
set_option maxRecDepth 100000 in
set_option maxHeartbeats 2000000 in
theorem qk_all {w0 w : World} {pq : Nat} {a : Qa} {n : Nat} {B : List (Nat × Obj)} (h : QOk w0 w pq a n B) (hn : n ≤ 900) :
 Calls Tryz.prog 11 #[.pointer (some ⟨pq, 0, none⟩)] w fun e w' => ∃ v0_ : Value, e = .returned v0_ ∧ NewE w w' v0_ (allQ a) := by
 have HQ := Aside0.mk h
 obtain ⟨f1, f2, f3⟩ := h.few
 have HC := Aside0.mk h.cnt
 have HSE := Aside0.mk (show (slotsE a).length ≤ 8 by have := slots_le a; omega)
 obtain ⟨who, q, h1, h2, _⟩ := h.ex
 obtain ⟨g, cap, hv, hc, _, hr⟩ := h1.lists
 have e1 := h2.len
 have hp := h1.c2
 rw [hv, e1] at hp
 rw [e1] at hc
 have HH1 := Aside0.mk h1
 have HH2 := Aside0.mk h2
 have HR := Aside0.mk hr
 have HP := Aside0.mk hp
 have HSS := Aside0.mk (show SortedE a.sh by rw [← h2.sh]; exact sortE_sorted _)
 have HLE := Aside0.mk e1
 clear h h1 h2 hv hr hp e1
 go_enter Tryz.func11, Tryz.ntmps11
 go_wp2_with fail
 refine (qk_slots HQ.out).mono ?_
 rintro e w1 ⟨v1, rfl, hv1, hb1⟩
 obtain ⟨A1, c1, rfl⟩ := Kd.V_slice hv1
 have HB1 := Aside0.mk hb1
 have HV1 := Aside0.mk (Kd.V_reads' hv1)
 clear hv1 hb1
 go_wp2_with fail
 refine (entry_Sort.calls A1 c1 (slotsE a) _ w1 HV1.out.2.2 HV1.out.2.1 (sort6_some (by have := HSE.out; omega))).mono ?_
 rintro e w2 ⟨v2, rfl, hv2, hb2⟩
 obtain ⟨A2, c2, rfl⟩ := Kd.V_slice hv2
 have HB2 := Aside0.mk (below_step HB1.out hb2)
 have HV2 := Aside0.mk hv2
 clear hv2 hb2
 go_wp2_with fail
 refine (qk_shared (HQ.out.below HB2.out) hn).mono ?_
 rintro e w3 ⟨v3, rfl, hv3, hb3⟩
 obtain ⟨A3, c3, rfl⟩ := Kd.V_slice hv3
 have HB3 := Aside0.mk (below_step HB2.out hb3)
 have HV3 := Aside0.mk hv3
 have HV23 := Aside0.mk (Kd.V_below HV2.out hb3)
 have HT := Aside0.mk (merge_told 3000000 (sortE (slotsE a)) a.sh (sortE_sorted _) HSS.out (by rw [sortE_length]; have := HSE.out; have := HC.out; omega) (by rw [sortE_length]; have := HSE.out; have := HC.out; omega))
 clear hv3 hb3
 go_wp2_with fail
 refine (entry_Merge.calls 3000000 _ A2 c2 (sortE (slotsE a)) _ A3 c3 a.sh _ w3 (V_to HV23.out (fun _ hk => hk)) (V_to HV3.out (fun _ hk => hk)) HT.out).mono ?_
 rintro e w4 ⟨v4, rfl, hv4, hb4⟩
 have HB4 := Aside0.mk (below_step HB3.out hb4)
 have HX := Aside0.mk (show Kd.V k33 33 w4 w.heap.size (fun k => w.heap.size ≤ k) v4 (sortE (slotsE a ++ a.sh ++ (a.loc.take 0).flatten)) from by
  rw [show sortE (slotsE a ++ a.sh ++ (a.loc.take 0).flatten) = sortE (sortE (slotsE a) ++ a.sh) from by
   rw [List.take_zero, List.flatten_nil, List.append_nil]; exact sortE_of_perm ((sortE_perm _).symm.append_right _)]
  exact V_to (Kd.R_V (base' := 0) hv4) (fun k hk => Nat.le_trans HB3.out.size hk))
 have hp4 := pw_cell_below HB4.out HP.out
 clear hv4 hb4
 go_wp2
 go_loopw [3, 17] (fun s i wr => ∃ m : Nat, m ≤ a.loc.length ∧ i = .int .i64 m ∧ Aside0 (Kd.V k33 33 wr w.heap.size (fun k => w.heap.size ≤ k) s (sortE (slotsE a ++ a.sh ++ (a.loc.take m).flatten))) ∧ Aside0 (Below w.heap.size w wr)) (fun _ i _ => a.loc.length - (intOf i).toNat)
 case atStart => exact ⟨0, Nat.zero_le _, rfl, HX, HB4⟩
 case round =>
  obtain ⟨m, hm, rfl, HR1, HB⟩ := hrel
  by_cases hlt : m < a.loc.length
  · obtain ⟨mm, hmm⟩ : ∃ mm, q.ms[m]? = some mm := ⟨_, List.getElem?_eq_getElem (by have := HLE.out; omega)⟩
    have HMM := Aside0.mk hmm
    have x1 := pw_cell_below HB.out (HR.out m mm hmm)
    have HLM := Aside0.mk (HH2.out.cntL hmm)
    have HGM := Aside0.mk (HH2.out.good mm (List.mem_of_getElem? hmm))
    have HNM := Aside0.mk (good_len HGM.out (by have := HLM.out; omega))
    have HOW := Aside0.mk ((HH1.out.below HB.out 11 (by have := HH1.out.few; omega)).ow m mm hmm)
    obtain ⟨L1, hL1⟩ : ∃ L1, L1 = sortE (slotsE a ++ a.sh ++ (a.loc.take m).flatten) := ⟨_, rfl⟩
    obtain ⟨L2, hL2⟩ : ∃ L2, L2 = sortE (allB mm.bs) := ⟨_, rfl⟩
    have HEQ := Aside0.mk (show sortE (slotsE a ++ a.sh ++ (a.loc.take (m + 1)).flatten) = sortE (L1 ++ L2) by
     rw [locs_take a.loc m hlt, HH2.out.at_ hmm, ← List.append_assoc, hL1, hL2]
     exact sortE_of_perm ((sortE_perm _).symm.append_right _))
    have HLS := Aside0.mk (show L1.length + L2.length ≤ 1900 by
     rw [hL1, hL2, sortE_length, sortE_length, List.length_append, List.length_append]
     have := locs_take_le a.loc m
     have := HSE.out
     have := HC.out
     have := HLM.out
     omega)
    rw [← hL1] at HR1
    have HMT := Aside0.mk (merge_told 3000000 L1 L2 (by rw [hL1]; exact sortE_sorted _) (by rw [hL2]; exact sortE_sorted _) (by have := HLS.out; omega) (by have := HLS.out; omega))
    have HL2 := Aside0.mk hL2
    obtain ⟨A5, c5, e5⟩ := Kd.V_slice HR1.out
    subst e5
    clear hmm hL1 hL2
    go_wp2_with fail
    refine (@lsm_all (XO (upO who 11 w.heap.size) (m + 3) wr.heap.size) _ _ _ _ _ HOW.out.1 HGM.out.snd (by have := HNM.out; have := HLM.out; omega) (by have := HLM.out; omega)).mono ?_
    rintro e w6 ⟨v6, rfl, hv6, hb6⟩
    rw [← HL2.out] at hv6
    obtain ⟨A6, c6, rfl⟩ := Kd.V_slice hv6
    have HB6 := Aside0.mk (below_step HB.out hb6)
    have HV6 := Aside0.mk hv6
    have HR6 := Aside0.mk (Kd.V_below HR1.out hb6)
    clear hv6 hb6
    go_wp2_with fail
    refine (entry_Merge.calls 3000000 _ A5 c5 L1 _ A6 c6 L2 _ w6 (V_to HR6.out (fun _ hk => hk)) (V_to HV6.out (fun _ hk => hk)) HMT.out).mono ?_
    rintro e w7 ⟨v7, rfl, hv7, hb7⟩
    have HB7 := Aside0.mk (below_step HB6.out hb7)
    have HR7 := Aside0.mk hv7
    clear hv7 hb7
    go_wp2
    go_roundw
    case rel => exact ⟨m + 1, by omega, by go_num, ⟨by rw [HEQ.out]; exact V_to (Kd.R_V (base' := 0) HR7.out) (fun k hk => Nat.le_trans HB6.out.size hk)⟩, HB7⟩
    case measure => simp [intOf]; omega
  · obtain rfl : m = a.loc.length := by omega
    rw [List.take_length] at HR1
    have HR2 := Aside0.mk (show Kd.V k33 33 wr w.heap.size (fun k => w.heap.size ≤ k) _ (allQ a) from HR1.out)
    clear HR1
    obtain ⟨A5, c5, e5⟩ := Kd.V_slice HR2.out
    subst e5
    have HC1 := Aside0.mk (Kd.V_reads' HR2.out).2.1
    have HM := Aside0.mk (show (allQ a).length ≤ 9223372036854775807 by have := allQ_le a; have := HC.out; omega)
    have HV := Aside0.mk (show Kd.V k33 33 wr w.heap.size (fun k => w.heap.size ≤ k) (.slice A5 (allQ a).length (allQ a).length) (allQ a) from Kd.V_mk (Nat.le_refl _) (Kd.V_F HR2.out))
    go_wp2_with (first | (go_at_call 48; (refine (clip_exact A5 (allQ a).length c5 _ HC1.out HM.out).mono ?_); rintro e w9 ⟨rfl, rfl⟩))
    go_ret
    exact ⟨_, rfl, HV.out, HB.out⟩
set_option maxHeartbeats 400000 in
theorem qk_len {w0 w : World} {pq : Nat} {a : Qa} {n : Nat} {B : List (Nat × Obj)} (h : QOk w0 w pq a n B) (hn : n ≤ 900) :
 Calls Tryz.prog 12 #[.pointer (some ⟨pq, 0, none⟩)] w fun e w' => e = .returned (.int .i64 (allQ a).length) ∧ Below w.heap.size w w' := by
 have HQ := Aside0.mk h
 clear h
 go_enter Tryz.func12, Tryz.ntmps12
 go_wp2_with fail
 refine (qk_all HQ.out hn).mono ?_
 rintro e w1 ⟨v1, rfl, hv1, hb1⟩
 obtain ⟨A1, c1, rfl⟩ := Kd.V_slice hv1
 have HB1 := Aside0.mk hb1
 clear hv1 hb1
 go_wp2
 go_ret
 exact ⟨rfl, HB1.out⟩
theorem one_CL {W : World} {g c : Nat} {A : Option Addr} {l : List E} (h : W.heap[g]? = some (.cells #[.slice A l.length c] 35 (0, 0))) (hc : l.length ≤ c) (hC : k33.C W A l.length l) : Kd.C (Kd.slice 33 k33) W (some ⟨g, 0, none⟩) ([l] : List (List E)).length [l] := by
 refine ⟨rfl, by simp, fun _ => ⟨_, rfl, fun j p hj => ?_⟩⟩
 rcases j with _ | j
 · simp only [List.length_singleton, List.getElem?_cons_zero, Option.some.injEq] at hj
   subst hj
   refine ⟨[.slice A l.length c], rfl, ⟨A, c, rfl, hc, hC⟩, fun i u hi => ?_⟩
   rcases i with _ | i
   · simp only [List.getElem?_cons_zero, Option.some.injEq] at hi
     subst hi
     exact (blk_cell h 0).trans rfl
   · simp at hi
 · simp at hj
def leastV (l : List E) : Int × Int × Int × Bool := match l with | [] => (0, 0, 0, false) | e :: _ => (e.f0, e.f1, 0, true)
theorem least_one (k : Nat) (hk : 3 ≤ k) (l : List E) (hl : l.length ≤ 1000000) : entry_Least.f k [l] = some (leastV l) := by
 obtain ⟨k, rfl⟩ : ∃ j, k = j + 3 := ⟨k - 3, by omega⟩
 have r0 : rd_L5 [l] 0 = l := rfl
 have w0 : wrap64 (0 + 1) = 1 := by rw [wrap_id (by omega) (by omega)]; rfl
 unfold entry_Least.f
 cases l with
 | nil =>
  simp only [entry_Least.l0, r0, w0]
  simp [leastV]
 | cons e t =>
  have h1 : ((e :: t : List E).length : Int) > 0 := by simp only [List.length_cons]; omega
  have r1 : rd_T33 (e :: t) 0 = e := rfl
  simp only [entry_Least.l0, r0, w0, h1, r1]
  simp [leastV]
end Go.Proofs.YthghkglkifeagaaGreat.V
end
section
set_option linter.unusedVariables false
set_option linter.unusedSimpArgs false
namespace Go.Proofs.YthghkglkifeagaaGreat.V
open Go.RowKit Go.Proofs.YthghkglkifeagaaGreatW.PrintWords Go.Proofs.YthghkglkifeagaaGreatW.PrintLast Go.Proofs.YthghkglkifeagaaGreatW.PrintMore
attribute [local go_sem] max2_int min2_int max_two min_two max_three min_three max_four min_four
def firsts (k : Int) (es : List E) : List E := (sortE es).take (clampN k es.length + 1)
def drawnE (L : List E) (d : Nat) : Value × Bool := if L = [] then (.agg #[.int .u64 0, .int .i64 0], false) else (.agg #[.int .u64 (L.getD (d % L.length) ⟨0, 0⟩).f0, .int .i64 (L.getD (d % L.length) ⟨0, 0⟩).f1], true)
def CandPost (k : Int) (d : Nat) (es : List E) (w : World) (x : Ending) (w' : World) : Prop :=
  x = .returned (.tuple #[(drawnE (firsts k es) d).1, .bool (drawnE (firsts k es) d).2]) ∧ Below w.heap.size w w'
theorem candPost_none {k : Int} {d : Nat} {es : List E} {w w' : World} {x : Ending} (h0 : firsts k es = []) (hx : x = .returned (.tuple #[.agg #[.int .u64 0, .int .i64 0], .bool false])) (hb : Below w.heap.size w w') : CandPost k d es w x w' := by
 unfold CandPost drawnE; rw [if_pos h0]; exact ⟨hx, hb⟩
theorem candPost_some {k : Int} {d : Nat} {es : List E} {w w' : World} {x : Ending} {e : E} (h0 : firsts k es ≠ []) (he : (firsts k es).getD (d % (firsts k es).length) ⟨0, 0⟩ = e) (hx : x = .returned (.tuple #[.agg #[.int .u64 e.f0, .int .i64 e.f1], .bool true])) (hb : Below w.heap.size w w') : CandPost k d es w x w' := by
 unfold CandPost drawnE; rw [if_neg h0, he]; exact ⟨hx, hb⟩
theorem clampN_succ (k : Int) (m : Nat) : clampN ((clampN k m : Int) + 1) m = min (clampN k m + 1) m := by
 have := clampN_le k m
 generalize clampN k m = q at *
 unfold clampN mn mx
 rcases Nat.le_total (q + 1) m with h | h <;> (repeat' split) <;> omega
theorem firsts_eq (k : Int) (es : List E) : (sortE es).take (clampN ((clampN k es.length : Int) + 1) es.length) = firsts k es := by
 unfold firsts
 rw [clampN_succ]
 rcases Nat.le_total (clampN k es.length + 1) es.length with h | h
 · rw [Nat.min_eq_left h]
 · rw [Nat.min_eq_right h, List.take_of_length_le (by rw [sortE_length]; exact Nat.le_refl _), List.take_of_length_le (by rw [sortE_length]; exact h)]
theorem clampN_low {k : Int} (m : Nat) (h : k < 0) : clampN k m = 0 := by unfold clampN mn mx; (repeat' split) <;> omega
theorem clampN_mid {k : Int} {m : Nat} (h0 : 0 ≤ k) (h : k ≤ m) : clampN k m = k.toNat := by unfold clampN mn mx; (repeat' split) <;> omega
theorem clampN_high {k : Int} {m : Nat} (h : (m : Int) < k) : clampN k m = m := by unfold clampN mn mx; (repeat' split) <;> omega
set_option maxRecDepth 100000 in
set_option maxHeartbeats 4000000 in
theorem sh_cand [XSet] (base p : Nat) (ver : Int) (v : Value) (bs : List Bk) (k : Int) (d : Nat) (w : World) (h : ShAt w base p ver v bs) (hd : d < 18446744073709551616) (hl : bs.length ≤ 1000) (ha : (allB bs).length ≤ 1000000) :
 Calls Tryz.prog 51 #[.pointer (some ⟨p, 0, none⟩), .int .i64 k, .int .u64 (d : Int)] w (CandPost k d (allB bs) w) := by
 have HZ := Aside0.mk (below_alloc (Below.refl w.heap.size w) (.cells #[.int .u64 0, .int .i64 0] 33))
 have HX := Aside0.mk (heap_alloc_new w (.cells #[.int .u64 0, .int .i64 0] 33))
 have HS := Aside0.mk (h.below HZ.out)
 have HA := Aside0.mk ha
 have HFE := Aside0.mk (firsts_eq k (allB bs))
 have HLF := Aside0.mk (show (firsts k (allB bs)).length ≤ 1000000 from by
  unfold firsts
  rw [List.length_take, sortE_length]
  omega)
 have HW := Aside0.mk (show w.heap.size < (w.alloc (.cells #[.int .u64 0, .int .i64 0] 33)).heap.size by simp)
 obtain ⟨L, hL⟩ : ∃ L, L = firsts k (allB bs) := ⟨_, rfl⟩
 have HLE := Aside0.mk hL
 clear h hd
 go_enter Tryz.func51, Tryz.ntmps51
 go_upto_region 1 with fail
 obtain ⟨wz, hwz⟩ : ∃ wz : World, wz = w.alloc (.cells #[.int .u64 0, .int .i64 0] 33) := ⟨_, rfl⟩
 rw [← hwz] at HZ HX HS HW ⊢
 clear hwz hL
 go_cut [8] (fun s8 wx => ∃ A2 c2, s8 = .slice A2 L.length c2 ∧ Aside0 (k33.C wx A2 L.length L) ∧ Aside0 (Below wz.heap.size wz wx))
 case first =>
  by_cases h0 : k < 0
  · have HC := Aside0.mk (clampN_low (allB bs).length h0)
    go_wp2_with fail
    refine (sh_len base p ver v bs _ HS.out hl HA.out).mono ?_
    rintro y w1 ⟨rfl, hb1⟩
    have HB1 := Aside0.mk hb1
    have HS1 := Aside0.mk (HS.out.below hb1)
    clear hb1
    go_wp2_with fail
    refine (sh_first base p ver v bs _ _ HS1.out hl HA.out).mono ?_
    rintro y w2 ⟨v2, rfl, hv2, hb2⟩
    rw [show (sortE (allB bs)).take (clampN 1 (allB bs).length) = L from by rw [HLE.out, ← HFE.out, HC.out]; rfl] at hv2
    obtain ⟨A2, c2, rfl⟩ := Kd.V_slice hv2
    have HV2 := Aside0.mk (Kd.V_reads' hv2)
    have HB2 := Aside0.mk (below_step HB1.out hb2)
    clear hv2 hb2
    go_wp2_with fail
    go_meet
    exact ⟨A2, c2, rfl, ⟨HV2.out.2.2⟩, HB2⟩
  · by_cases h1 : k ≤ ((allB bs).length : Int)
    · have HC := Aside0.mk (clampN_mid (m := (allB bs).length) (by omega) h1)
      have HKT := Aside0.mk (show ((k.toNat : Nat) : Int) = k by omega)
      have hw1 : IntKind.i64.wrap (k + 1) = k + 1 := IntWalk.i64_in _ (by have := HA.out; omega)
      have h01 : 0 ≤ k := by omega
      have h02 : ¬ ((allB bs).length : Int) < k := by omega
      go_wp2_with fail
      refine (sh_len base p ver v bs _ HS.out hl HA.out).mono ?_
      rintro y w1 ⟨rfl, hb1⟩
      have HB1 := Aside0.mk hb1
      have HS1 := Aside0.mk (HS.out.below hb1)
      clear hb1
      go_wp2_with fail
      refine (sh_first base p ver v bs _ _ HS1.out hl HA.out).mono ?_
      rintro y w2 ⟨v2, rfl, hv2, hb2⟩
      rw [show (sortE (allB bs)).take (clampN (k + 1) (allB bs).length) = L from by rw [HLE.out, ← HFE.out, HC.out, HKT.out]] at hv2
      obtain ⟨A2, c2, rfl⟩ := Kd.V_slice hv2
      have HV2 := Aside0.mk (Kd.V_reads' hv2)
      have HB2 := Aside0.mk (below_step HB1.out hb2)
      clear hv2 hb2
      go_wp2_with fail
      go_meet
      exact ⟨A2, c2, rfl, ⟨HV2.out.2.2⟩, HB2⟩
    · have HC := Aside0.mk (clampN_high (m := (allB bs).length) (show ((allB bs).length : Int) < k by omega))
      have hw1 : IntKind.i64.wrap (((allB bs).length : Int) + 1) = ((allB bs).length : Int) + 1 := IntWalk.i64_in _ (by have := HA.out; omega)
      have h01 : 0 ≤ k := by omega
      have h02 : ((allB bs).length : Int) < k := by omega
      go_wp2_with fail
      refine (sh_len base p ver v bs _ HS.out hl HA.out).mono ?_
      rintro y w1 ⟨rfl, hb1⟩
      have HB1 := Aside0.mk hb1
      have HS1 := Aside0.mk (HS.out.below hb1)
      clear hb1
      go_wp2_with fail
      refine (sh_first base p ver v bs _ _ HS1.out hl HA.out).mono ?_
      rintro y w2 ⟨v2, rfl, hv2, hb2⟩
      rw [show (sortE (allB bs)).take (clampN (((allB bs).length : Int) + 1) (allB bs).length) = L from by rw [HLE.out, ← HFE.out, HC.out]] at hv2
      obtain ⟨A2, c2, rfl⟩ := Kd.V_slice hv2
      have HV2 := Aside0.mk (Kd.V_reads' hv2)
      have HB2 := Aside0.mk (below_step HB1.out hb2)
      clear hv2 hb2
      go_wp2_with fail
      go_meet
      exact ⟨A2, c2, rfl, ⟨HV2.out.2.2⟩, HB2⟩
 case rest =>
  obtain ⟨A2, c2, rfl, HC, HB⟩ := hcut
  have hx := blk_below HX.out HB.out
  have x0 : wc.cell? ⟨w.heap.size, 0, none⟩ = some (.int .u64 0) := (blk_cell hx 0).trans rfl
  have x1 : wc.cell? ⟨w.heap.size, 1, none⟩ = some (.int .i64 0) := (blk_cell hx 1).trans rfl
  have f0 : wc.frozen? ⟨w.heap.size, 0, none⟩ = false := frozen_row hx 0
  have f1 : wc.frozen? ⟨w.heap.size, 1, none⟩ = false := frozen_row hx 1
  have HB2 := Aside0.mk (below_step HZ.out HB.out)
  clear hx
  by_cases h0 : L = []
  · have HL0 := Aside0.mk h0
    subst h0
    go_wp2
    exact bodyPost_ret (v := .tuple #[.agg #[.int .u64 0, .int .i64 0], .bool false]) (by simp [results, Tryz.results51, go_sem, x0, x1]) rfl (candPost_none HLE.out.symm rfl ((HB2.out.setCell (Nat.le_refl _) _).setCell (Nat.le_refl _) _))
  · have hpos : 0 < L.length := by
     cases L with
     | nil => exact absurd rfl h0
     | cons _ _ => simp
    obtain ⟨r, hr⟩ : ∃ r, d % L.length = r := ⟨_, rfl⟩
    have hrl : r < L.length := by rw [← hr]; exact Nat.mod_lt _ hpos
    obtain ⟨e, he⟩ : ∃ e, L.getD r ⟨0, 0⟩ = e := ⟨_, rfl⟩
    obtain ⟨ad, e1, y0, y1⟩ := at_T33 HC.out (r : Int) (by omega) (by omega)
    subst e1
    have hrd : rd_T33 L (r : Int) = e := by unfold rd_T33; rw [Int.toNat_natCast]; exact he
    rw [Int.toNat_natCast, hrd] at y0 y1
    have r1 : (d : Int).tmod (L.length : Int) = (r : Int) := by rw [Int.tmod_eq_emod_of_nonneg (by omega), ← hr]; rfl
    have r2 : (d : Int) % (L.length : Int) = (r : Int) := by rw [← hr]; rfl
    have r3 : ¬ ((L.length : Int) = 0) := by omega
    have r4 : ¬ (L.length = 0) := by omega
    have r6 : ((L.length : Int) == 0) = false := by rw [beq_eq_false_iff_ne]; omega
    have hlL : L.length ≤ 1000000 := by rw [HLE.out]; exact HLF.out
    have s1 : IntKind.u64.wrap (L.length : Int) = (L.length : Int) := IntWalk.u64_in _ (by omega)
    have s2 : IntKind.u64.wrap (r : Int) = (r : Int) := IntWalk.u64_in _ (by omega)
    have s3 : IntKind.i64.wrap (r : Int) = (r : Int) := IntWalk.i64_in _ (by omega)
    have r7 : decide (L = []) = false := decide_eq_false h0
    have r8 : decide (L.length = 0) = false := decide_eq_false r4
    have hri : (r : Int) < (L.length : Int) := by omega
    have hri0 : (0 : Int) ≤ (r : Int) := by omega
    have HEE := Aside0.mk (show (firsts k (allB bs)).getD (d % (firsts k (allB bs)).length) ⟨0, 0⟩ = e by rw [← HLE.out, hr]; exact he)
    have HNE := Aside0.mk (show firsts k (allB bs) ≠ [] by rw [← HLE.out]; exact h0)
    clear hr he hrd hpos
    go_wp2
    exact bodyPost_ret (v := .tuple #[.agg #[.int .u64 e.f0, .int .i64 e.f1], .bool true]) (by simp [results, Tryz.results51, go_sem, x0, x1]) rfl (candPost_some HNE.out HEE.out rfl ((HB2.out.setCell (Nat.le_refl _) _).setCell (Nat.le_refl _) _))
end Go.Proofs.YthghkglkifeagaaGreat.V
end
section
set_option linter.unusedVariables false
set_option linter.unusedSimpArgs false
namespace Go.Proofs.YthghkglkifeagaaGreat.V
open Go.RowKit Go.Proofs.YthghkglkifeagaaGreatW.PrintWords Go.Proofs.YthghkglkifeagaaGreatW.PrintLast Go.Proofs.YthghkglkifeagaaGreatW.PrintMore
def optV (o : Option E) : Value × Bool := match o with | none => (.agg #[.int .u64 0, .int .i64 0], false) | some e => (.agg #[.int .u64 e.f0, .int .i64 e.f1], true)
def retV (o : Option E) : Value := .tuple #[(optV o).1, .bool (optV o).2]
theorem min_opt (l : List E) : minV l = optV l.head? := by cases l <;> rfl
structure ZBox (w wr : World) (g : Nat) : Prop where
  at_ : wr.heap[g]? = some (.cells #[.int .u64 0, .int .i64 0] 33 (0, 0))
  lo : w.heap.size ≤ g
  bel : Below w.heap.size w wr
theorem ZBox.below {w wr w1 : World} {g : Nat} (h : ZBox w wr g) (hb : Below wr.heap.size wr w1) : ZBox w w1 g := ⟨blk_below h.at_ hb, h.lo, below_step h.bel hb⟩
theorem ZBox.first (w : World) : ZBox w (w.alloc (.cells #[.int .u64 0, .int .i64 0] 33)) w.heap.size := ⟨heap_alloc_new w _, Nat.le_refl _, below_alloc (Below.refl _ _) _⟩
theorem ZBox.facts {w wr : World} {g : Nat} (h : ZBox w wr g) : wr.cell? ⟨g, 0, none⟩ = some (.int .u64 0) ∧ wr.cell? ⟨g, 1, none⟩ = some (.int .i64 0) ∧ wr.frozen? ⟨g, 0, none⟩ = false ∧ wr.frozen? ⟨g, 1, none⟩ = false :=
 ⟨(blk_cell h.at_ 0).trans rfl, (blk_cell h.at_ 1).trans rfl, frozen_row h.at_ 0, frozen_row h.at_ 1⟩
theorem ZBox.done {w wr : World} {g : Nat} (h : ZBox w wr g) (x y : Value) : Below w.heap.size w ((wr.setCell ⟨g, 0, none⟩ x).setCell ⟨g, 1, none⟩ y) := (h.bel.setCell h.lo _).setCell h.lo _
set_option maxRecDepth 100000 in
set_option maxHeartbeats 2000000 in
theorem qk_least {w0 w : World} {pq : Nat} {a : Qa} {n : Nat} {B : List (Nat × Obj)} (h : QOk w0 w pq a n B) (hn : n ≤ 900) :
 Calls Tryz.prog 49 #[.pointer (some ⟨pq, 0, none⟩)] w fun e w' => e = .returned (retV (allQ a).head?) ∧ Below w.heap.size w w' := by
 have HQ := Aside0.mk (h.below (ZBox.first w).bel)
 have HZ := Aside0.mk (ZBox.first w)
 obtain ⟨l, hl⟩ : ∃ l, allQ a = l := ⟨_, rfl⟩
 have HL := Aside0.mk hl
 rw [hl]
 have HLA := Aside0.mk (show l.length ≤ 1000000 by rw [← hl]; have := allQ_le a; have := h.cnt; have := h.few; omega)
 clear h hl
 go_enter Tryz.func49, Tryz.ntmps49
 go_wp2_with fail
 refine (qk_all HQ.out hn).mono ?_
 rintro e w1 ⟨v1, rfl, hv1, hb1⟩
 rw [HL.out] at hv1
 obtain ⟨A1, c1, rfl⟩ := Kd.V_slice hv1
 have HZ1 := Aside0.mk (HZ.out.below hb1)
 have HV1 := Aside0.mk (Kd.V_reads' hv1)
 clear hv1 hb1
 have HX := Aside0.mk (heap_alloc_new w1 (.cells #[.slice A1 l.length c1] 35))
 have HB2 := Aside0.mk (below_alloc (Below.refl w1.heap.size w1) (.cells #[.slice A1 l.length c1] 35))
 have HCL := Aside0.mk (one_CL HX.out HV1.out.2.1 (Kd.C_below HV1.out.2.2 HB2.out))
 have HZ2 := Aside0.mk (HZ1.out.below HB2.out)
 have HLO := Aside0.mk (least_one 10 (by omega) (l) HLA.out)
 go_wp2_with fail
 cases l with
 | nil =>
  refine (entry_Least.calls 10 _ 1 _ _ _ _ _ _ HCL.out (Nat.le_refl _) HLO.out).mono ?_
  rintro e w3 ⟨rfl, hb3⟩
  have HZ3 := Aside0.mk (HZ2.out.below hb3)
  have HZ4 := Aside0.mk (HZ3.out.below (below_alloc (Below.refl w3.heap.size w3) (.cells #[.int .u64 0, .int .i64 0] 33)))
  obtain ⟨x0, x1, y0, y1⟩ := HZ4.out.facts
  clear hb3
  go_wp2
  exact bodyPost_ret (v := retV none) (by simp [results, Tryz.results49, go_sem, x0, x1, retV, optV]) rfl ⟨rfl, HZ4.out.done _ _⟩
 | cons e0 t =>
  refine (entry_Least.calls 10 _ 1 _ _ _ _ _ _ HCL.out (Nat.le_refl _) HLO.out).mono ?_
  rintro e w3 ⟨rfl, hb3⟩
  have HZ3 := Aside0.mk (HZ2.out.below hb3)
  have HZ4 := Aside0.mk (HZ3.out.below (below_alloc (Below.refl w3.heap.size w3) (.cells #[.int .u64 e0.f0, .int .i64 e0.f1] 33)))
  obtain ⟨x0, x1, y0, y1⟩ := HZ4.out.facts
  clear hb3
  go_wp2
  exact bodyPost_ret (v := retV (some e0)) (by simp [results, Tryz.results49, go_sem, x0, x1, retV, optV]) rfl ⟨rfl, HZ4.out.done _ _⟩
theorem after_draw {b w6 : World} (hb : Below b.drew.heap.size b.drew w6) : Below b.heap.size b w6 := below_then (below_drew (Below.refl b.heap.size b)) (Nat.le_refl _) hb
theorem after_zero {b w6 : World} {cs : Array Value} {t : TypeId} (hb : Below (b.alloc (.cells cs t)).drew.heap.size (b.alloc (.cells cs t)).drew w6) : w6.heap[b.heap.size]? = some (.cells cs t (0, 0)) ∧ Below b.heap.size b w6 := by
 have h1 := below_drew (below_alloc (Below.refl b.heap.size b) (.cells cs t))
 have h0 : (b.alloc (.cells cs t)).drew.heap[b.heap.size]? = some (.cells cs t (0, 0)) := heap_alloc_new b _
 exact ⟨(hb.block _ (Array.getElem?_eq_some_iff.1 h0).1).trans h0, below_then h1 h1.size hb⟩
theorem zero_facts {w6 : World} {b : Nat} {t : TypeId} {u v : Value} (h : w6.heap[b]? = some (.cells #[u, v] t (0, 0))) : w6.cell? ⟨b, 0, none⟩ = some u ∧ w6.cell? ⟨b, 1, none⟩ = some v ∧ w6.frozen? ⟨b, 0, none⟩ = false ∧ w6.frozen? ⟨b, 1, none⟩ = false :=
 ⟨(blk_cell h 0).trans rfl, (blk_cell h 1).trans rfl, frozen_row h 0, frozen_row h 1⟩
theorem put_two {w6 : World} {b : Nat} {t : TypeId} {u v x y : Value} {n : Nat} {w : World} (h : w6.heap[b]? = some (.cells #[u, v] t (0, 0))) (hb : Below n w w6) (hn : n ≤ b) :
 ((w6.setCell ⟨b, 0, none⟩ x).setCell ⟨b, 1, none⟩ y).heap[b]? = some (.cells #[x, y] t (0, 0)) ∧ Below n w ((w6.setCell ⟨b, 0, none⟩ x).setCell ⟨b, 1, none⟩ y) :=
 ⟨blk_put (blk_put h 0 x rfl) 1 y rfl, (hb.setCell hn _).setCell hn _⟩
theorem find_hit {α β : Type} {f : α → Option β} {e : β} : ∀ {l : List α} {m : Nat} {x : α}, l[m]? = some x → f x = some e → (∀ j y, j < m → l[j]? = some y → f y = none) → l.findSome? f = some e := by
 intro l
 induction l with
 | nil => intro m x h; simp at h
 | cons b r ih =>
  intro m x hx he hb
  cases m with
  | zero =>
   simp only [List.getElem?_cons_zero, Option.some.injEq] at hx
   subst hx
   rw [List.findSome?_cons, he]
  | succ m =>
   rw [List.findSome?_cons, hb 0 b (by omega) (by simp)]
   exact ih (m := m) (x := x) (by simpa using hx) he (fun j y hj hy => hb (j + 1) y (by omega) (by simpa using hy))
theorem find_miss {α β : Type} {f : α → Option β} {l : List α} (hb : ∀ x ∈ l, f x = none) : l.findSome? f = none := List.findSome?_eq_none_iff.2 hb
def nextHead (a : Qa) (t i : Nat) : Option E := (a.loc.getD ((t + 1 + i) % a.loc.length) []).head?
def roundQ (a : Qa) (t : Nat) : Option E := match (List.range a.loc.length).findSome? (nextHead a t) with | some e => some e | none => (sortE (slotsE a)).head?
theorem round_hit {a : Qa} {t m : Nat} {e : E} (hm : m < a.loc.length) (he : nextHead a t m = some e) (hb : ∀ j, j < m → nextHead a t j = none) : roundQ a t = some e := by
 unfold roundQ
 rw [find_hit (m := m) (x := m) (by rw [List.getElem?_range hm]) he (fun j y hj hy => by
  rw [List.getElem?_range (by omega)] at hy
  injection hy with hy
  subst hy; exact hb j hj)]
theorem round_miss {a : Qa} {t : Nat} (hb : ∀ j, j < a.loc.length → nextHead a t j = none) : roundQ a t = (sortE (slotsE a)).head? := by
 unfold roundQ
 rw [find_miss (fun x hx => hb x (List.mem_range.1 hx))]
set_option maxRecDepth 100000 in
set_option maxHeartbeats 4000000 in
theorem qk_round {w0 w : World} {pq : Nat} {a : Qa} {n : Nat} {B : List (Nat × Obj)} (h : QOk w0 w pq a n B) (hn : n ≤ 900) (t : Nat) (ht : t < a.loc.length) :
 Calls Tryz.prog 52 #[.pointer (some ⟨pq, 0, none⟩), .int .i64 t] w fun e w' => e = .returned (retV (roundQ a t)) ∧ Below w.heap.size w w' := by
 have HC := Aside0.mk h.cnt
 obtain ⟨f1, f2, f3⟩ := h.few
 obtain ⟨who, q, h1, h2, _⟩ := h.ex
 have HA := Aside0.mk (show ∀ wr, Below w.heap.size w wr → QAt (upO who 11 w.heap.size) wr w0.heap.size pq q from fun wr hb => h1.below hb 11 (by have := h1.few; omega))
 obtain ⟨g, cap, hv, hc, _, hr⟩ := h1.lists
 have HLE := Aside0.mk h2.len
 have HH2 := Aside0.mk h2
 have HR := Aside0.mk hr
 have HZ := Aside0.mk (ZBox.first w)
 have HSE := Aside0.mk (show (slotsE a).length ≤ 8 by have := slots_le a; omega)
 have hq2 : ∀ wr, Below w.heap.size w wr → wr.cell? ⟨pq, 2, none⟩ = some (.slice (some ⟨g, 0, none⟩) a.loc.length cap) := fun wr hb => by
  rw [← h2.len, ← hv]; exact (HA.out wr hb).c2
 have HQ2 := Aside0.mk hq2
 have hp := hq2 _ HZ.out.bel
 have HCAP := Aside0.mk (show a.loc.length ≤ cap by rw [← h2.len]; exact hc)
 clear h h1 h2 hv hc hr hq2
 go_enter Tryz.func52, Tryz.ntmps52
 go_wp2
 obtain ⟨wz, hwz⟩ : ∃ wz : World, wz = w.alloc (.cells #[.int .u64 0, .int .i64 0] 33) := ⟨_, rfl⟩
 rw [← hwz] at HZ hp ⊢
 clear hwz
 go_loopw [17] (fun i wr => ∃ m : Nat, m ≤ a.loc.length ∧ i = .int .i64 m ∧ Aside0 (∀ j, j < m → nextHead a t j = none) ∧ Aside0 (ZBox w wr w.heap.size)) (fun i _ => a.loc.length - (intOf i).toNat)
 case atStart => exact ⟨0, Nat.zero_le _, rfl, ⟨fun j h => by omega⟩, HZ⟩
 case round =>
  obtain ⟨m, hm, rfl, HN, HZR⟩ := hrel
  by_cases hlt : m < a.loc.length
  · obtain ⟨r, hr⟩ : ∃ r, (t + 1 + m) % a.loc.length = r := ⟨_, rfl⟩
    have hrl : r < a.loc.length := by rw [← hr]; exact Nat.mod_lt _ (by omega)
    have r1 : ((t : Int) + 1 + (m : Int)).tmod (a.loc.length : Int) = (r : Int) := by
     rw [Int.tmod_eq_emod_of_nonneg (by omega), ← hr]
     show ((t + 1 + m : Nat) : Int) % _ = _
     rfl
    have r2 : ((t : Int) + 1 + (m : Int)) % (a.loc.length : Int) = (r : Int) := by
     rw [← hr]
     show ((t + 1 + m : Nat) : Int) % _ = _
     rfl
    have r3 : ((a.loc.length : Int) == 0) = false := by rw [beq_eq_false_iff_ne]; omega
    have r4 : ¬ ((a.loc.length : Int) = 0) := by omega
    have r5 : ¬ (a.loc.length = 0) := by omega
    have v1 : IntKind.i64.wrap ((t : Int) + 1) = (t : Int) + 1 := IntWalk.i64_in _ (by omega)
    have v2 : IntKind.i64.wrap ((t : Int) + 1 + (m : Int)) = (t : Int) + 1 + (m : Int) := IntWalk.i64_in _ (by omega)
    have r6 : ¬ (a.loc = []) := fun e => by rw [e] at hlt; simp at hlt
    have r7 : decide (a.loc = []) = false := decide_eq_false r6
    have r8 : decide (a.loc.length = 0) = false := decide_eq_false r5
    obtain ⟨mm, hmm⟩ : ∃ mm, q.ms[r]? = some mm := ⟨_, List.getElem?_eq_getElem (by have := HLE.out; omega)⟩
    have x1 := pw_cell_below HZR.out.bel (HR.out r mm hmm)
    have x2 := HQ2.out wr HZR.out.bel
    have x1a := fun o => pw_cell_below (below_alloc (Below.refl wr.heap.size wr) o) x1
    have x2a := fun o => pw_cell_below (below_alloc (Below.refl wr.heap.size wr) o) x2
    have HLM := Aside0.mk (HH2.out.cntL hmm)
    have HGM := Aside0.mk (HH2.out.good mm (List.mem_of_getElem? hmm))
    have HNM := Aside0.mk (good_len HGM.out (by have := HLM.out; omega))
    have HBD := Aside0.mk (show Below w.heap.size w wr.drew from below_drew HZR.out.bel)
    have HMM := Aside0.mk hmm
    have HNH := Aside0.mk (show nextHead a t m = (sortE (allB mm.bs)).head? by unfold nextHead; rw [hr, HH2.out.at_ hmm]; rfl)
    have hri : (r : Int) < (a.loc.length : Int) := by omega
    have hri0 : (0 : Int) ≤ (r : Int) := by omega
    clear hmm hr
    have HMIN := Aside0.mk (show ∀ W, Below w.heap.size w W → Calls Tryz.prog 50 #[.pointer (some ⟨mm.p, 0, none⟩)] W fun x_ w' => x_ = .returned (.tuple #[(optV (nextHead a t m)).1, .bool (optV (nextHead a t m)).2]) ∧ Below W.heap.size W w' from fun W hb => by
     have := @lsm_min (XO (upO who 11 w.heap.size) (r + 3) W.heap.size) _ _ _ _ _ ((HA.out W hb).ow r mm HMM.out).1 (by have := HNM.out; have := HLM.out; omega) (by have := HLM.out; omega)
     rw [min_opt, ← HNH.out] at this
     exact this)
    have HBD2 := Aside0.mk (show ∀ o, Below w.heap.size w (wr.alloc o).drew from fun o => below_drew (below_step HZR.out.bel (below_alloc (Below.refl wr.heap.size wr) o)))
    obtain ⟨y, hy⟩ : ∃ y, nextHead a t m = y := ⟨_, rfl⟩
    rw [hy] at HMIN
    have HY := Aside0.mk hy
    clear hy
    cases y with
    | none =>
     have HMIN2 := Aside0.mk (show ∀ W, Below w.heap.size w W → Calls Tryz.prog 50 #[.pointer (some ⟨mm.p, 0, none⟩)] W fun x_ w' => x_ = .returned (.tuple #[.agg #[.int .u64 0, .int .i64 0], .bool false]) ∧ Below W.heap.size W w' from HMIN.out)
     have HN2 : Aside0 (∀ j, j < m + 1 → nextHead a t j = none) := ⟨fun j hj => by
      by_cases h1 : j = m
      · rw [h1]; exact HY.out
      · exact HN.out j (by omega)⟩
     go_upto_region 4 with fail
     go_cut [7, 8] (fun s7 s8 wx => (∃ X, s7 = .pointer (some ⟨X, 0, none⟩)) ∧ s8 = .bool false ∧ Aside0 (Below wr.heap.size wr wx))
     case first =>
      go_region_with (first
       | (go_at_call 50; go_loud ((first | refine (HMIN2.out _ HBD.out).mono ?_ | refine (HMIN2.out _ (HBD2.out _)).mono ?_); rintro x_ w6 ⟨rfl, hb6⟩; (first | (have H6 := Aside0.mk (after_zero hb6); obtain ⟨zc0, zc1, zf0, zf1⟩ := zero_facts H6.out.1; clear hb6) | (have H6 := Aside0.mk (after_draw hb6); clear hb6)))))
      all_goals (go_wp2_with fail)
      all_goals go_meet
      all_goals first
       | exact ⟨⟨_, rfl⟩, rfl, ⟨below_step H6.out (below_alloc (Below.refl w6.heap.size w6) _)⟩⟩
       | exact ⟨⟨_, rfl⟩, rfl, ⟨(put_two H6.out.1 H6.out.2 (Nat.le_refl _)).2⟩⟩
     case rest =>
      obtain ⟨⟨X, rfl⟩, rfl, HBX⟩ := hcut
      have HZ2 := Aside0.mk (HZR.out.below HBX.out)
      go_wp2
      go_roundw
      case rel => exact ⟨m + 1, by omega, by go_num, HN2, HZ2⟩
      case measure => simp [intOf]; omega
    | some e =>
     have HMIN2 := Aside0.mk (show ∀ W, Below w.heap.size w W → Calls Tryz.prog 50 #[.pointer (some ⟨mm.p, 0, none⟩)] W fun x_ w' => x_ = .returned (.tuple #[.agg #[.int .u64 e.f0, .int .i64 e.f1], .bool true]) ∧ Below W.heap.size W w' from HMIN.out)
     have HHIT := Aside0.mk (round_hit hlt HY.out HN.out)
     go_upto_region 4 with fail
     go_cut [7, 8] (fun s7 s8 wx => ∃ X, s7 = .pointer (some ⟨X, 0, none⟩) ∧ s8 = .bool true ∧ Aside0 (wx.heap[X]? = some (.cells #[.int .u64 e.f0, .int .i64 e.f1] 33 (0, 0))) ∧ Aside0 (Below wr.heap.size wr wx))
     case first =>
      go_region_with (first
       | (go_at_call 50; go_loud ((first | refine (HMIN2.out _ HBD.out).mono ?_ | refine (HMIN2.out _ (HBD2.out _)).mono ?_); rintro x_ w6 ⟨rfl, hb6⟩; (first | (have H6 := Aside0.mk (after_zero hb6); obtain ⟨zc0, zc1, zf0, zf1⟩ := zero_facts H6.out.1; clear hb6) | (have H6 := Aside0.mk (after_draw hb6); clear hb6)))))
      all_goals (go_wp2_with fail)
      all_goals go_meet
      all_goals first
       | exact ⟨_, rfl, rfl, ⟨heap_alloc_new w6 _⟩, ⟨below_step H6.out (below_alloc (Below.refl w6.heap.size w6) _)⟩⟩
       | exact ⟨_, rfl, rfl, ⟨(put_two H6.out.1 H6.out.2 (Nat.le_refl _)).1⟩, ⟨(put_two H6.out.1 H6.out.2 (Nat.le_refl _)).2⟩⟩
     case rest =>
      obtain ⟨X, rfl, rfl, HX, HBX⟩ := hcut
      have HZ2 := Aside0.mk (HZR.out.below HBX.out)
      have y0 : wc.cell? ⟨X, 0, none⟩ = some (.int .u64 e.f0) := (blk_cell HX.out 0).trans rfl
      have y1 : wc.cell? ⟨X, 1, none⟩ = some (.int .i64 e.f1) := (blk_cell HX.out 1).trans rfl
      obtain ⟨x0, x1, z0, z1⟩ := HZ2.out.facts
      go_wp2
      exact bodyPost_ret (v := retV (some e)) (by simp [results, Tryz.results52, go_sem, x0, x1, retV, optV]) rfl ⟨by rw [HHIT.out], HZ2.out.done _ _⟩
  · obtain rfl : m = a.loc.length := by omega
    have HMISS := Aside0.mk (round_miss HN.out)
    have hq1 := (HA.out wr HZR.out.bel).c1
    have HSL := Aside0.mk (HA.out wr HZR.out.bel).sl
    have HSS := Aside0.mk (show allO q.L = slotsE a by rw [allO_slots, HH2.out.S]; rfl)
    clear HN
    go_wp2_with fail
    refine (slot_all _ _ _ _ HSL.out).mono ?_
    rintro e w1 ⟨v1, rfl, hv1, hb1⟩
    rw [HSS.out] at hv1
    obtain ⟨A1, c1, rfl⟩ := Kd.V_slice hv1
    have HZ1 := Aside0.mk (HZR.out.below hb1)
    have HV1 := Aside0.mk (Kd.V_reads' hv1)
    clear hv1 hb1
    go_wp2_with fail
    refine (entry_Sort.calls A1 c1 (slotsE a) _ w1 HV1.out.2.2 HV1.out.2.1 (sort6_some (by have := HSE.out; omega))).mono ?_
    rintro e w2 ⟨v2, rfl, hv2, hb2⟩
    obtain ⟨A2, c2, rfl⟩ := Kd.V_slice hv2
    have HZ2 := Aside0.mk (HZ1.out.below hb2)
    have HV2 := Aside0.mk (Kd.V_reads' hv2)
    clear hv2 hb2
    have HX := Aside0.mk (heap_alloc_new w2 (.cells #[.slice A2 (sortE (slotsE a)).length c2] 35))
    have HB3 := Aside0.mk (below_alloc (Below.refl w2.heap.size w2) (.cells #[.slice A2 (sortE (slotsE a)).length c2] 35))
    have HCL := Aside0.mk (one_CL HX.out HV2.out.2.1 (Kd.C_below HV2.out.2.2 HB3.out))
    have HZ3 := Aside0.mk (HZ2.out.below HB3.out)
    have HLO := Aside0.mk (least_one 10 (by omega) (sortE (slotsE a)) (by rw [sortE_length]; have := HSE.out; omega))
    generalize sortE (slotsE a) = l at *
    go_wp2_with fail
    cases l with
    | nil =>
     refine (entry_Least.calls 10 _ 1 _ _ _ _ _ _ HCL.out (Nat.le_refl _) HLO.out).mono ?_
     rintro e w4 ⟨rfl, hb4⟩
     have HZ4 := Aside0.mk ((HZ3.out.below hb4).below (below_alloc (Below.refl w4.heap.size w4) (.cells #[.int .u64 0, .int .i64 0] 33)))
     obtain ⟨x0, x1, y0, y1⟩ := HZ4.out.facts
     clear hb4
     go_wp2
     exact bodyPost_ret (v := retV none) (by simp [results, Tryz.results52, go_sem, x0, x1, retV, optV]) rfl ⟨by rw [HMISS.out]; rfl, HZ4.out.done _ _⟩
    | cons e0 t0 =>
     refine (entry_Least.calls 10 _ 1 _ _ _ _ _ _ HCL.out (Nat.le_refl _) HLO.out).mono ?_
     rintro e w4 ⟨rfl, hb4⟩
     have HZ4 := Aside0.mk ((HZ3.out.below hb4).below (below_alloc (Below.refl w4.heap.size w4) (.cells #[.int .u64 e0.f0, .int .i64 e0.f1] 33)))
     obtain ⟨x0, x1, y0, y1⟩ := HZ4.out.facts
     clear hb4
     go_wp2
     exact bodyPost_ret (v := retV (some e0)) (by simp [results, Tryz.results52, go_sem, x0, x1, retV, optV]) rfl ⟨by rw [HMISS.out]; rfl, HZ4.out.done _ _⟩
end Go.Proofs.YthghkglkifeagaaGreat.V
end
section
set_option linter.unusedVariables false
set_option linter.unusedSimpArgs false
namespace Go.Proofs.YthghkglkifeagaaGreat.V
open Go.RowKit Go.Proofs.YthghkglkifeagaaGreatW.PrintWords Go.Proofs.YthghkglkifeagaaGreatW.PrintLast Go.Proofs.YthghkglkifeagaaGreatW.PrintMore
def candL (L : List E) (d : Nat) : Option E := if L = [] then none else some (L.getD (d % L.length) ⟨0, 0⟩)
theorem drawn_opt (L : List E) (d : Nat) : drawnE L d = optV (candL L d) := by
 unfold drawnE candL
 by_cases h : L = []
 · rw [if_pos h, if_pos h]; rfl
 · rw [if_neg h, if_neg h]; rfl
theorem firsts_take (k : Nat) (es : List E) : firsts (k : Int) es = (sortE es).take (k + 1) := by
 unfold firsts
 rcases Nat.lt_or_ge k es.length with h | h
 · rw [clampN_mid (by omega) (by omega), Int.toNat_natCast]
 · have : clampN (k : Int) es.length = es.length := by
    rcases Nat.lt_or_ge es.length k with h2 | h2
    · exact clampN_high (by omega)
    · rw [clampN_mid (by omega) (by omega), Int.toNat_natCast]; omega
   rw [this, List.take_of_length_le (by rw [sortE_length]; omega), List.take_of_length_le (by rw [sortE_length]; omega)]
def candQ (a : Qa) (d : Nat) : Option E := candL (a.sh.take (a.k + 1)) d
def relaxP (p r o : Option E) : Option E :=
  match p, r with
  | none, none => o
  | some x, none => some x
  | none, some y => some y
  | some x, some y => if ltE y x = true then some y else some x
def relaxedQ (a : Qa) (t d : Nat) : Option E := relaxP (a.loc.getD t []).head? (candQ a d) (roundQ a t)
theorem opt_cut (o : Option E) : ∃ (x : E) (b : Bool), optV o = (.agg #[.int .u64 x.f0, .int .i64 x.f1], b) ∧ o = if b = true then some x else none := by
 cases o with
 | none => exact ⟨⟨0, 0⟩, false, rfl, rfl⟩
 | some e => exact ⟨e, true, rfl, rfl⟩
theorem retV_cut {o : Option E} {x : E} {b : Bool} (h : optV o = (.agg #[.int .u64 x.f0, .int .i64 x.f1], b)) : retV o = .tuple #[.agg #[.int .u64 x.f0, .int .i64 x.f1], .bool b] := by unfold retV; rw [h]
set_option maxRecDepth 100000 in
set_option maxHeartbeats 8000000 in
theorem qk_relaxed {w0 w : World} {pq : Nat} {a : Qa} {n : Nat} {B : List (Nat × Obj)} (h : QOk w0 w pq a n B) (hn : n ≤ 900) (t : Nat) (ht : t < a.loc.length) (d : Nat) (hd : d < 18446744073709551616) :
 Calls Tryz.prog 15 #[.pointer (some ⟨pq, 0, none⟩), .int .i64 t, .int .u64 d] w fun e w' => e = .returned (retV (relaxedQ a t d)) ∧ Below w.heap.size w w' := by
 have HRO := Aside0.mk (show ∀ wr, Below w.heap.size w wr → Calls Tryz.prog 52 #[.pointer (some ⟨pq, 0, none⟩), .int .i64 t] wr fun e w' => e = .returned (retV (roundQ a t)) ∧ Below wr.heap.size wr w' from fun wr hb => qk_round (h.below hb) hn t ht)
 obtain ⟨f1, f2, f3⟩ := h.few
 obtain ⟨who, q, h1, h2, _⟩ := h.ex
 have HA := Aside0.mk (show ∀ wr, Below w.heap.size w wr → QAt (upO who 11 w.heap.size) wr w0.heap.size pq q from fun wr hb => h1.below hb 11 (by have := h1.few; omega))
 obtain ⟨g, cap, hv, hc, _, hr⟩ := h1.lists
 have HLE := Aside0.mk h2.len
 have HZ := Aside0.mk (ZBox.first w)
 have hq2 : ∀ wr, Below w.heap.size w wr → wr.cell? ⟨pq, 2, none⟩ = some (.slice (some ⟨g, 0, none⟩) a.loc.length cap) := fun wr hb => by
  rw [← h2.len, ← hv]; exact (HA.out wr hb).c2
 have HQ2 := Aside0.mk hq2
 have hp := hq2 _ HZ.out.bel
 have hqk := h2.k
 have HQK := Aside0.mk hqk
 obtain ⟨mm, hmm⟩ : ∃ mm, q.ms[t]? = some mm := ⟨_, List.getElem?_eq_getElem (by rw [h2.len]; exact ht)⟩
 have x1 := pw_cell_below HZ.out.bel (hr t mm hmm)
 have hLM := h2.cntL hmm
 have hNM := good_len (h2.good mm (List.mem_of_getElem? hmm)) (by omega)
 have hat := h2.at_ hmm
 have e5 := h2.allsh
 have e6 := h2.cnt
 have e7 := h2.few
 obtain ⟨x, px, hx1, hx2⟩ := opt_cut (a.loc.getD t []).head?
 obtain ⟨y, py, hy1, hy2⟩ := opt_cut (candQ a d)
 have HREL := Aside0.mk (show relaxedQ a t d = relaxP (if px = true then some x else none) (if py = true then some y else none) (roundQ a t) by rw [← hx2, ← hy2]; rfl)
 have HMIN := Aside0.mk (show ∀ wr, Below w.heap.size w wr → Calls Tryz.prog 50 #[.pointer (some ⟨mm.p, 0, none⟩)] wr fun e w' => e = .returned (.tuple #[.agg #[.int .u64 x.f0, .int .i64 x.f1], .bool px]) ∧ Below wr.heap.size wr w' from fun wr hb => by
  have := @lsm_min (XO (upO who 11 w.heap.size) (t + 3) wr.heap.size) _ _ _ _ _ ((HA.out wr hb).ow t mm hmm).1 (by omega) (by omega)
  rw [min_opt, show sortE (allB mm.bs) = a.loc.getD t [] from hat.symm, hx1] at this
  exact this)
 have HCAND := Aside0.mk (show ∀ wr, Below w.heap.size w wr → Calls Tryz.prog 51 #[.pointer (some ⟨q.psh, 0, none⟩), .int .i64 q.k, .int .u64 (d : Int)] wr fun e w' => e = .returned (.tuple #[.agg #[.int .u64 y.f0, .int .i64 y.f1], .bool py]) ∧ Below wr.heap.size wr w' from fun wr hb => by
  refine (@sh_cand (XO (upO who 11 w.heap.size) 2 wr.heap.size) w0.heap.size q.psh q.ver q.vs q.sb q.k d wr (HA.out wr hb).sh.1 hd (by omega) (by omega)).mono ?_
  rintro e w' hp
  unfold CandPost at hp
  rw [firsts_take, show sortE (allB q.sb) = a.sh from h2.sh, drawn_opt, hqk, show optV (candL (a.sh.take (a.k + 1)) d) = _ from hy1] at hp
  exact hp)
 have HLESS := Aside0.mk (less_told 5 (by omega) y.f0 y.f1 x.f0 x.f1)
 have HTH := Aside0.mk (q_there (HA.out _ HZ.out.bel) t (by rw [h2.len]; exact ht))
 have hti : (t : Int) < (a.loc.length : Int) := by omega
 have hti0 : (0 : Int) ≤ (t : Int) := by omega
 clear h h1 h2 hv hc hr hq2 hmm hLM hNM hat e5 e6 e7 hx1 hx2 hy1 hy2 hqk
 go_enter Tryz.func15, Tryz.ntmps15
 go_wp2_with fail
 obtain ⟨wz, hwz⟩ : ∃ wz : World, wz = w.alloc (.cells #[.int .u64 0, .int .i64 0] 33) := ⟨_, rfl⟩
 rw [← hwz] at HZ hp x1 HTH ⊢
 clear hwz
 refine HTH.out.mono ?_
 rintro e w1 ⟨rfl, rfl⟩
 go_wp2_with fail
 refine (HMIN.out _ HZ.out.bel).mono ?_
 rintro e w2 ⟨rfl, hb2⟩
 have HX8 := Aside0.mk (heap_alloc_new w2 (.cells #[.int .u64 x.f0, .int .i64 x.f1] 33))
 have HZ2 := Aside0.mk ((HZ.out.below hb2).below (below_alloc (Below.refl w2.heap.size w2) (.cells #[.int .u64 x.f0, .int .i64 x.f1] 33)))
 go_upto_region 4 with fail
 obtain ⟨wb, hwb⟩ : ∃ wb : World, wb = w2.alloc (.cells #[.int .u64 x.f0, .int .i64 x.f1] 33) := ⟨_, rfl⟩
 rw [← hwb] at HX8 HZ2 ⊢
 have HBD := Aside0.mk (below_drew HZ2.out.bel)
 have HBD2 := Aside0.mk (show ∀ o, Below w.heap.size w (wb.alloc o).drew from fun o => below_drew (below_step HZ2.out.bel (below_alloc (Below.refl wb.heap.size wb) o)))
 have hq3 := (HA.out _ HZ2.out.bel).c3
 have hq0 := (HA.out _ HZ2.out.bel).c0
 have hq3a := fun o => pw_cell_below (below_alloc (Below.refl wb.heap.size wb) o) hq3
 have hq0a := fun o => pw_cell_below (below_alloc (Below.refl wb.heap.size wb) o) hq0
 clear hb2 hp x1 hwb
 go_cut [10, 11] (fun s10 s11 wx => ∃ X, s10 = .pointer (some ⟨X, 0, none⟩) ∧ s11 = .bool py ∧ Aside0 (wx.heap[X]? = some (.cells #[.int .u64 y.f0, .int .i64 y.f1] 33 (0, 0))) ∧ Aside0 (wx.heap[w2.heap.size]? = some (.cells #[.int .u64 x.f0, .int .i64 x.f1] 33 (0, 0))) ∧ Aside0 (ZBox w wx w.heap.size))
 case first =>
  go_region_with (first
   | (go_at_call 51; go_loud ((first | refine (HCAND.out _ HBD.out).mono ?_ | refine (HCAND.out _ (HBD2.out _)).mono ?_); rintro x_ w6 ⟨rfl, hb6⟩; (first | (have H6 := Aside0.mk (after_zero hb6); obtain ⟨zc0, zc1, zf0, zf1⟩ := zero_facts H6.out.1; clear hb6) | (have H6 := Aside0.mk (after_draw hb6); clear hb6)))))
  all_goals (go_wp2_with fail)
  all_goals go_meet
  all_goals first
   | exact ⟨_, rfl, rfl, ⟨heap_alloc_new w6 _⟩, ⟨blk_below HX8.out (below_step H6.out (below_alloc (Below.refl w6.heap.size w6) _))⟩, ⟨HZ2.out.below (below_step H6.out (below_alloc (Below.refl w6.heap.size w6) _))⟩⟩
   | exact ⟨_, rfl, rfl, ⟨(put_two H6.out.1 H6.out.2 (Nat.le_refl _)).1⟩, ⟨blk_below HX8.out (put_two H6.out.1 H6.out.2 (Nat.le_refl _)).2⟩, ⟨HZ2.out.below (put_two H6.out.1 H6.out.2 (Nat.le_refl _)).2⟩⟩
 case rest =>
  obtain ⟨X, rfl, rfl, HX, HX8c, HZC⟩ := hcut
  have y0 : wc.cell? ⟨X, 0, none⟩ = some (.int .u64 y.f0) := (blk_cell HX.out 0).trans rfl
  have y1 : wc.cell? ⟨X, 1, none⟩ = some (.int .i64 y.f1) := (blk_cell HX.out 1).trans rfl
  have x0 : wc.cell? ⟨w2.heap.size, 0, none⟩ = some (.int .u64 x.f0) := (blk_cell HX8c.out 0).trans rfl
  have x1 : wc.cell? ⟨w2.heap.size, 1, none⟩ = some (.int .i64 x.f1) := (blk_cell HX8c.out 1).trans rfl
  cases px with
  | false =>
   cases py with
   | false =>
    obtain ⟨z, pz, hz1, hz2⟩ := opt_cut (roundQ a t)
    have HZ1 := Aside0.mk hz1
    have HRC := Aside0.mk (HRO.out wc HZC.out.bel)
    rw [retV_cut hz1] at HRC
    have HRR := Aside0.mk (show retV (relaxedQ a t d) = .tuple #[.agg #[.int .u64 z.f0, .int .i64 z.f1], .bool pz] by rw [HREL.out]; exact retV_cut hz1)
    clear hz1 hz2 y0 y1 x0 x1
    go_wp2_with fail
    refine HRC.out.mono ?_
    rintro e w7 ⟨rfl, hb7⟩
    have HZ7 := Aside0.mk (HZC.out.below hb7)
    obtain ⟨z0, z1, z2, z3⟩ := HZ7.out.facts
    clear hb7
    go_wp2
    exact bodyPost_ret (v := .tuple #[.agg #[.int .u64 z.f0, .int .i64 z.f1], .bool pz]) (by simp [results, Tryz.results15, go_sem, z0, z1]) rfl ⟨by rw [HRR.out], HZ7.out.done _ _⟩
   | true =>
    have HRR := Aside0.mk (show retV (relaxedQ a t d) = .tuple #[.agg #[.int .u64 y.f0, .int .i64 y.f1], .bool true] by rw [HREL.out]; rfl)
    obtain ⟨z0, z1, z2, z3⟩ := HZC.out.facts
    go_wp2
    exact bodyPost_ret (v := .tuple #[.agg #[.int .u64 y.f0, .int .i64 y.f1], .bool true]) (by simp [results, Tryz.results15, go_sem, z0, z1]) rfl ⟨by rw [HRR.out], HZC.out.done _ _⟩
  | true =>
   cases py with
   | false =>
    have HRR := Aside0.mk (show retV (relaxedQ a t d) = .tuple #[.agg #[.int .u64 x.f0, .int .i64 x.f1], .bool true] by rw [HREL.out]; rfl)
    obtain ⟨z0, z1, z2, z3⟩ := HZC.out.facts
    go_wp2
    exact bodyPost_ret (v := .tuple #[.agg #[.int .u64 x.f0, .int .i64 x.f1], .bool true]) (by simp [results, Tryz.results15, go_sem, z0, z1]) rfl ⟨by rw [HRR.out], HZC.out.done _ _⟩
   | true =>
    have HRR := Aside0.mk (show relaxedQ a t d = if ltE y x = true then some y else some x by rw [HREL.out]; rfl)
    cases hl : ltE (⟨y.f0, y.f1⟩ : E) ⟨x.f0, x.f1⟩ with
    | true =>
     have HRT := Aside0.mk (show retV (relaxedQ a t d) = .tuple #[.agg #[.int .u64 y.f0, .int .i64 y.f1], .bool true] by rw [HRR.out, if_pos hl]; rfl)
     rw [hl] at HLESS
     clear hl
     go_wp2_with fail
     refine (entry_Less.calls 5 _ _ _ _ _ _ HLESS.out).mono ?_
     rintro e w7 ⟨rfl, hb7⟩
     have HZ7 := Aside0.mk (HZC.out.below hb7)
     obtain ⟨z0, z1, z2, z3⟩ := HZ7.out.facts
     have y0' := pw_cell_below hb7 y0
     have y1' := pw_cell_below hb7 y1
     clear hb7 y0 y1 x0 x1
     go_wp2
     exact bodyPost_ret (v := .tuple #[.agg #[.int .u64 y.f0, .int .i64 y.f1], .bool true]) (by simp [results, Tryz.results15, go_sem, z0, z1]) rfl ⟨by rw [HRT.out], HZ7.out.done _ _⟩
    | false =>
     have HRT := Aside0.mk (show retV (relaxedQ a t d) = .tuple #[.agg #[.int .u64 x.f0, .int .i64 x.f1], .bool true] by rw [HRR.out, if_neg (by simpa using hl)]; rfl)
     rw [hl] at HLESS
     clear hl
     go_wp2_with fail
     refine (entry_Less.calls 5 _ _ _ _ _ _ HLESS.out).mono ?_
     rintro e w7 ⟨rfl, hb7⟩
     have HZ7 := Aside0.mk (HZC.out.below hb7)
     obtain ⟨z0, z1, z2, z3⟩ := HZ7.out.facts
     have x0' := pw_cell_below hb7 x0
     have x1' := pw_cell_below hb7 x1
     clear hb7 y0 y1 x0 x1
     go_wp2
     exact bodyPost_ret (v := .tuple #[.agg #[.int .u64 x.f0, .int .i64 x.f1], .bool true]) (by simp [results, Tryz.results15, go_sem, z0, z1]) rfl ⟨by rw [HRT.out], HZ7.out.done _ _⟩
end Go.Proofs.YthghkglkifeagaaGreat.V
end
section
set_option linter.unusedVariables false
set_option linter.unusedSimpArgs false
namespace Go.Proofs.YthghkglkifeagaaGreat.V
open Go.RowKit Go.Proofs.YthghkglkifeagaaGreatW.PrintWords Go.Proofs.YthghkglkifeagaaGreatW.PrintLast Go.Proofs.YthghkglkifeagaaGreatW.PrintMore
theorem sortE_one (e : E) : sortE [e] = [e] := sortE_of_sorted (by simp [SortedE])
theorem aw1 : putQ (newA 2 1) 0 ⟨5, 1⟩ = ⟨1, [some ⟨5, 1⟩, none], [[], []], []⟩ := by simp [putQ, settleQ, slotQ, newA, List.replicate]
theorem aw2 : putQ ⟨1, [some ⟨5, 1⟩, none], [[], []], []⟩ 0 ⟨3, 2⟩ = ⟨1, [some ⟨3, 2⟩, none], [[⟨5, 1⟩], []], []⟩ := by simp [putQ, settleQ, slotQ, settleA, sortE_one]
theorem aw3 : allQ ⟨1, [some ⟨3, 2⟩, none], [[⟨5, 1⟩], []], []⟩ = [⟨3, 2⟩, ⟨5, 1⟩] := by
 unfold allQ slotsE
 refine sortE_eq ?_ ?_
 · simp [SortedE, leE, ltE]
 · simp
theorem aw4 : whereQ ⟨1, [some ⟨3, 2⟩, none], [[⟨5, 1⟩], []], []⟩ 1 = (2, 0) := by decide
set_option maxRecDepth 100000 in
set_option maxHeartbeats 4000000 in
theorem awake10 (w : World) : Calls Tryz.prog 14 #[] w fun e w' => e = .returned (.bool true) ∧ Below w.heap.size w w' := by
 go_enter Tryz.func14, Tryz.ntmps14
 go_wp2_with fail
 refine (q_new 2 1 w (by omega) (by omega) (by omega)).mono ?_
 rintro e w1 ⟨pq, rfl, h1⟩
 have H1 := Aside0.mk h1
 clear h1
 go_wp2_with fail
 refine (qk_put H1.out (by omega) 0 (by decide) ⟨5, 1⟩).mono ?_
 rintro e w2 ⟨rfl, h2⟩
 rw [aw1] at h2
 have H2 := Aside0.mk h2
 clear h2
 go_wp2_with fail
 refine (qk_put H2.out (by omega) 0 (by decide) ⟨3, 2⟩).mono ?_
 rintro e w3 ⟨rfl, h3⟩
 rw [aw2] at h3
 have H3 := Aside0.mk h3
 clear h3
 go_wp2_with fail
 refine (qk_least H3.out (by omega)).mono ?_
 rintro e w4 ⟨he, h4⟩
 rw [aw3] at he
 obtain rfl : e = .returned (.tuple #[.agg #[.int .u64 3, .int .i64 2], .bool true]) := he
 have hb4 := below_alloc (Below.refl w4.heap.size w4) (.cells #[.int .u64 3, .int .i64 2] 33)
 have H4 := Aside0.mk ((H3.out.below h4).below hb4)
 have HX := Aside0.mk (heap_alloc_new w4 (.cells #[.int .u64 3, .int .i64 2] 33))
 clear h4 hb4
 go_wp2_with fail
 refine (qk_where H4.out (by omega) 1).mono ?_
 rintro e w5 ⟨he, h5⟩
 rw [aw4] at he
 obtain rfl : e = .returned (.tuple #[.int .i64 2, .int .i64 0]) := he
 have H5 := Aside0.mk (H4.out.below h5)
 have hx := blk_below HX.out h5
 have x0 : w5.cell? ⟨w4.heap.size, 0, none⟩ = some (.int .u64 3) := (blk_cell hx 0).trans rfl
 have x1 : w5.cell? ⟨w4.heap.size, 1, none⟩ = some (.int .i64 2) := (blk_cell hx 1).trans rfl
 clear h5 hx HX
 go_wp2_with fail
 refine (qk_len H5.out (by omega)).mono ?_
 rintro e w6 ⟨he, h6⟩
 rw [aw3] at he
 obtain rfl : e = .returned (.int .i64 2) := he
 have HB := Aside0.mk (H5.out.below h6).bel
 clear h6 x0 x1
 go_wp2
 go_ret
 exact ⟨by first | rfl | simp, HB.out⟩
end Go.Proofs.YthghkglkifeagaaGreat.V
end
