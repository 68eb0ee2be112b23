-- a text of this work, without what this claim doesn't use (wip/shake.py)
import Derived.Test.YthghkglkifeagaaGreatKVPentry1
import Derived.Test.YthghkglkifeagaaGreatKVL6
import Derived.Test.YthghkglkifeagaaGreatKVQ11
import Derived.Test.YthghkglkifeagaaGreatKVQ0
import Derived.IntWalk
import Derived.Test.YthghkglkifeagaaGreatKVPblockb
section
set_option linter.unusedVariables false
set_option linter.unusedSimpArgs false
namespace Go.Proofs.YthghkglkifeagaaGreat.V
open Go.RowKit Go.Proofs.YthghkglkifeagaaGreatW.PrintWords Go.Proofs.YthghkglkifeagaaGreatW.PrintLast Go.Proofs.YthghkglkifeagaaGreatW.PrintMore
theorem locs_len (l : List (List E)) : l.flatten.length = sumL l := by rw [List.length_flatten]; rfl
theorem locs_take (l : List (List E)) (m : Nat) (h : m < l.length) : (l.take (m + 1)).flatten = (l.take m).flatten ++ l.getD m [] := by
 rw [List.take_succ_eq_append_getElem h, List.flatten_append, List.getD_eq_getElem?_getD, List.getElem?_eq_getElem h]
 simp
theorem locs_take_le (l : List (List E)) (m : Nat) : (l.take m).flatten.length ≤ sumL l := by
 rw [← locs_len l]
 conv => rhs; rw [← List.take_append_drop m l]
 rw [List.flatten_append, List.length_append]
 omega
theorem slots_le (a : Qa) : (slotsE a).length ≤ a.S.length := by unfold slotsE; exact List.length_filterMap_le _ _
theorem allQ_le (a : Qa) : (allQ a).length ≤ a.S.length + a.sh.length + sumL a.loc := by
 unfold allQ
 rw [sortE_length, List.length_append, List.length_append, locs_len]
 have := slots_le a
 omega
theorem V_to {w : World} {b b' : Nat} {ok ok' : Nat → Prop} {v : Value} {l : List E} (h : Kd.V k33 33 w b ok v l) (hk : ∀ k, ok k → ok' k) : Kd.V k33 33 w b' ok' v l := Kd.V_mono (show Kd.V k33 33 w b' ok v l from h) hk
set_option maxRecDepth 100000 in
set_option maxHeartbeats 2000000 in
theorem qk_all {w0 w : World} {pq : Nat} {a : Qa} {n : Nat} {B : List (Nat × Obj)} (h : QOk w0 w pq a n B) (hn : n ≤ 900) :
 Calls Tryz.prog 11 #[.pointer (some ⟨pq, 0, none⟩)] w fun e w' => ∃ v0_ : Value, e = .returned v0_ ∧ NewE w w' v0_ (allQ a) := by
 have HQ := Aside0.mk h
 obtain ⟨f1, f2, f3⟩ := h.few
 have HC := Aside0.mk h.cnt
 have HSE := Aside0.mk (show (slotsE a).length ≤ 8 by have := slots_le a; omega)
 obtain ⟨who, q, h1, h2, _⟩ := h.ex
 obtain ⟨g, cap, hv, hc, _, hr⟩ := h1.lists
 have e1 := h2.len
 have hp := h1.c2
 rw [hv, e1] at hp
 rw [e1] at hc
 have HH1 := Aside0.mk h1
 have HH2 := Aside0.mk h2
 have HR := Aside0.mk hr
 have HP := Aside0.mk hp
 have HSS := Aside0.mk (show SortedE a.sh by rw [← h2.sh]; exact sortE_sorted _)
 have HLE := Aside0.mk e1
 clear h h1 h2 hv hr hp e1
 go_enter Tryz.func11, Tryz.ntmps11
 go_wp2_with fail
 refine (qk_slots HQ.out).mono ?_
 rintro e w1 ⟨v1, rfl, hv1, hb1⟩
 obtain ⟨A1, c1, rfl⟩ := Kd.V_slice hv1
 have HB1 := Aside0.mk hb1
 have HV1 := Aside0.mk (Kd.V_reads' hv1)
 clear hv1 hb1
 go_wp2_with fail
 refine (entry_Sort.calls A1 c1 (slotsE a) _ w1 HV1.out.2.2 HV1.out.2.1 (sort6_some (by have := HSE.out; omega))).mono ?_
 rintro e w2 ⟨v2, rfl, hv2, hb2⟩
 obtain ⟨A2, c2, rfl⟩ := Kd.V_slice hv2
 have HB2 := Aside0.mk (below_step HB1.out hb2)
 have HV2 := Aside0.mk hv2
 clear hv2 hb2
 go_wp2_with fail
 refine (qk_shared (HQ.out.below HB2.out) hn).mono ?_
 rintro e w3 ⟨v3, rfl, hv3, hb3⟩
 obtain ⟨A3, c3, rfl⟩ := Kd.V_slice hv3
 have HB3 := Aside0.mk (below_step HB2.out hb3)
 have HV3 := Aside0.mk hv3
 have HV23 := Aside0.mk (Kd.V_below HV2.out hb3)
 have HT := Aside0.mk (merge_told 3000000 (sortE (slotsE a)) a.sh (sortE_sorted _) HSS.out (by rw [sortE_length]; have := HSE.out; have := HC.out; omega) (by rw [sortE_length]; have := HSE.out; have := HC.out; omega))
 clear hv3 hb3
 go_wp2_with fail
 refine (entry_Merge.calls 3000000 _ A2 c2 (sortE (slotsE a)) _ A3 c3 a.sh _ w3 (V_to HV23.out (fun _ hk => hk)) (V_to HV3.out (fun _ hk => hk)) HT.out).mono ?_
 rintro e w4 ⟨v4, rfl, hv4, hb4⟩
 have HB4 := Aside0.mk (below_step HB3.out hb4)
 have HX := Aside0.mk (show Kd.V k33 33 w4 w.heap.size (fun k => w.heap.size ≤ k) v4 (sortE (slotsE a ++ a.sh ++ (a.loc.take 0).flatten)) from by
  rw [show sortE (slotsE a ++ a.sh ++ (a.loc.take 0).flatten) = sortE (sortE (slotsE a) ++ a.sh) from by
   rw [List.take_zero, List.flatten_nil, List.append_nil]; exact sortE_of_perm ((sortE_perm _).symm.append_right _)]
  exact V_to (Kd.R_V (base' := 0) hv4) (fun k hk => Nat.le_trans HB3.out.size hk))
 have hp4 := pw_cell_below HB4.out HP.out
 clear hv4 hb4
 go_wp2
 go_loopw [3, 17] (fun s i wr => ∃ m : Nat, m ≤ a.loc.length ∧ i = .int .i64 m ∧ Aside0 (Kd.V k33 33 wr w.heap.size (fun k => w.heap.size ≤ k) s (sortE (slotsE a ++ a.sh ++ (a.loc.take m).flatten))) ∧ Aside0 (Below w.heap.size w wr)) (fun _ i _ => a.loc.length - (intOf i).toNat)
 case atStart => exact ⟨0, Nat.zero_le _, rfl, HX, HB4⟩
 case round =>
  obtain ⟨m, hm, rfl, HR1, HB⟩ := hrel
  by_cases hlt : m < a.loc.length
  · obtain ⟨mm, hmm⟩ : ∃ mm, q.ms[m]? = some mm := ⟨_, List.getElem?_eq_getElem (by have := HLE.out; omega)⟩
    have HMM := Aside0.mk hmm
    have x1 := pw_cell_below HB.out (HR.out m mm hmm)
    have HLM := Aside0.mk (HH2.out.cntL hmm)
    have HGM := Aside0.mk (HH2.out.good mm (List.mem_of_getElem? hmm))
    have HNM := Aside0.mk (good_len HGM.out (by have := HLM.out; omega))
    have HOW := Aside0.mk ((HH1.out.below HB.out 11 (by have := HH1.out.few; omega)).ow m mm hmm)
    obtain ⟨L1, hL1⟩ : ∃ L1, L1 = sortE (slotsE a ++ a.sh ++ (a.loc.take m).flatten) := ⟨_, rfl⟩
    obtain ⟨L2, hL2⟩ : ∃ L2, L2 = sortE (allB mm.bs) := ⟨_, rfl⟩
    have HEQ := Aside0.mk (show sortE (slotsE a ++ a.sh ++ (a.loc.take (m + 1)).flatten) = sortE (L1 ++ L2) by
     rw [locs_take a.loc m hlt, HH2.out.at_ hmm, ← List.append_assoc, hL1, hL2]
     exact sortE_of_perm ((sortE_perm _).symm.append_right _))
    have HLS := Aside0.mk (show L1.length + L2.length ≤ 1900 by
     rw [hL1, hL2, sortE_length, sortE_length, List.length_append, List.length_append]
     have := locs_take_le a.loc m
     have := HSE.out
     have := HC.out
     have := HLM.out
     omega)
    rw [← hL1] at HR1
    have HMT := Aside0.mk (merge_told 3000000 L1 L2 (by rw [hL1]; exact sortE_sorted _) (by rw [hL2]; exact sortE_sorted _) (by have := HLS.out; omega) (by have := HLS.out; omega))
    have HL2 := Aside0.mk hL2
    obtain ⟨A5, c5, e5⟩ := Kd.V_slice HR1.out
    subst e5
    clear hmm hL1 hL2
    go_wp2_with fail
    refine (@lsm_all (XO (upO who 11 w.heap.size) (m + 3) wr.heap.size) _ _ _ _ _ HOW.out.1 HGM.out.snd (by have := HNM.out; have := HLM.out; omega) (by have := HLM.out; omega)).mono ?_
    rintro e w6 ⟨v6, rfl, hv6, hb6⟩
    rw [← HL2.out] at hv6
    obtain ⟨A6, c6, rfl⟩ := Kd.V_slice hv6
    have HB6 := Aside0.mk (below_step HB.out hb6)
    have HV6 := Aside0.mk hv6
    have HR6 := Aside0.mk (Kd.V_below HR1.out hb6)
    clear hv6 hb6
    go_wp2_with fail
    refine (entry_Merge.calls 3000000 _ A5 c5 L1 _ A6 c6 L2 _ w6 (V_to HR6.out (fun _ hk => hk)) (V_to HV6.out (fun _ hk => hk)) HMT.out).mono ?_
    rintro e w7 ⟨v7, rfl, hv7, hb7⟩
    have HB7 := Aside0.mk (below_step HB6.out hb7)
    have HR7 := Aside0.mk hv7
    clear hv7 hb7
    go_wp2
    go_roundw
    case rel => exact ⟨m + 1, by omega, by go_num, ⟨by rw [HEQ.out]; exact V_to (Kd.R_V (base' := 0) HR7.out) (fun k hk => Nat.le_trans HB6.out.size hk)⟩, HB7⟩
    case measure => simp [intOf]; omega
  · obtain rfl : m = a.loc.length := by omega
    rw [List.take_length] at HR1
    have HR2 := Aside0.mk (show Kd.V k33 33 wr w.heap.size (fun k => w.heap.size ≤ k) _ (allQ a) from HR1.out)
    clear HR1
    obtain ⟨A5, c5, e5⟩ := Kd.V_slice HR2.out
    subst e5
    have HC1 := Aside0.mk (Kd.V_reads' HR2.out).2.1
    have HM := Aside0.mk (show (allQ a).length ≤ 9223372036854775807 by have := allQ_le a; have := HC.out; omega)
    have HV := Aside0.mk (show Kd.V k33 33 wr w.heap.size (fun k => w.heap.size ≤ k) (.slice A5 (allQ a).length (allQ a).length) (allQ a) from Kd.V_mk (Nat.le_refl _) (Kd.V_F HR2.out))
    go_wp2_with (first | (go_at_call 48; (refine (clip_exact A5 (allQ a).length c5 _ HC1.out HM.out).mono ?_); rintro e w9 ⟨rfl, rfl⟩))
    go_ret
    exact ⟨_, rfl, HV.out, HB.out⟩
set_option maxHeartbeats 400000 in
theorem qk_len {w0 w : World} {pq : Nat} {a : Qa} {n : Nat} {B : List (Nat × Obj)} (h : QOk w0 w pq a n B) (hn : n ≤ 900) :
 Calls Tryz.prog 12 #[.pointer (some ⟨pq, 0, none⟩)] w fun e w' => e = .returned (.int .i64 (allQ a).length) ∧ Below w.heap.size w w' := by
 have HQ := Aside0.mk h
 clear h
 go_enter Tryz.func12, Tryz.ntmps12
 go_wp2_with fail
 refine (qk_all HQ.out hn).mono ?_
 rintro e w1 ⟨v1, rfl, hv1, hb1⟩
 obtain ⟨A1, c1, rfl⟩ := Kd.V_slice hv1
 have HB1 := Aside0.mk hb1
 clear hv1 hb1
 go_wp2
 go_ret
 exact ⟨rfl, HB1.out⟩
theorem one_CL {W : World} {g c : Nat} {A : Option Addr} {l : List E} (h : W.heap[g]? = some (.cells #[.slice A l.length c] 35 (0, 0))) (hc : l.length ≤ c) (hC : k33.C W A l.length l) : Kd.C (Kd.slice 33 k33) W (some ⟨g, 0, none⟩) ([l] : List (List E)).length [l] := by
 refine ⟨rfl, by simp, fun _ => ⟨_, rfl, fun j p hj => ?_⟩⟩
 rcases j with _ | j
 · simp only [List.length_singleton, List.getElem?_cons_zero, Option.some.injEq] at hj
   subst hj
   refine ⟨[.slice A l.length c], rfl, ⟨A, c, rfl, hc, hC⟩, fun i u hi => ?_⟩
   rcases i with _ | i
   · simp only [List.getElem?_cons_zero, Option.some.injEq] at hi
     subst hi
     exact (blk_cell h 0).trans rfl
   · simp at hi
 · simp at hj
def leastV (l : List E) : Int × Int × Int × Bool := match l with | [] => (0, 0, 0, false) | e :: _ => (e.f0, e.f1, 0, true)
theorem least_one (k : Nat) (hk : 3 ≤ k) (l : List E) (hl : l.length ≤ 1000000) : entry_Least.f k [l] = some (leastV l) := by
 obtain ⟨k, rfl⟩ : ∃ j, k = j + 3 := ⟨k - 3, by omega⟩
 have r0 : rd_L5 [l] 0 = l := rfl
 have w0 : wrap64 (0 + 1) = 1 := by rw [wrap_id (by omega) (by omega)]; rfl
 unfold entry_Least.f
 cases l with
 | nil =>
  simp only [entry_Least.l0, r0, w0]
  simp [leastV]
 | cons e t =>
  have h1 : ((e :: t : List E).length : Int) > 0 := by simp only [List.length_cons]; omega
  have r1 : rd_T33 (e :: t) 0 = e := rfl
  simp only [entry_Least.l0, r0, w0, h1, r1]
  simp [leastV]
end Go.Proofs.YthghkglkifeagaaGreat.V
end
section
set_option linter.unusedVariables false
set_option linter.unusedSimpArgs false
namespace Go.Proofs.YthghkglkifeagaaGreat.V
open Go.RowKit Go.Proofs.YthghkglkifeagaaGreatW.PrintWords Go.Proofs.YthghkglkifeagaaGreatW.PrintLast Go.Proofs.YthghkglkifeagaaGreatW.PrintMore
def optV (o : Option E) : Value × Bool := match o with | none => (.agg #[.int .u64 0, .int .i64 0], false) | some e => (.agg #[.int .u64 e.f0, .int .i64 e.f1], true)
def retV (o : Option E) : Value := .tuple #[(optV o).1, .bool (optV o).2]
structure ZBox (w wr : World) (g : Nat) : Prop where
  at_ : wr.heap[g]? = some (.cells #[.int .u64 0, .int .i64 0] 33 (0, 0))
  lo : w.heap.size ≤ g
  bel : Below w.heap.size w wr
theorem ZBox.below {w wr w1 : World} {g : Nat} (h : ZBox w wr g) (hb : Below wr.heap.size wr w1) : ZBox w w1 g := ⟨blk_below h.at_ hb, h.lo, below_step h.bel hb⟩
theorem ZBox.first (w : World) : ZBox w (w.alloc (.cells #[.int .u64 0, .int .i64 0] 33)) w.heap.size := ⟨heap_alloc_new w _, Nat.le_refl _, below_alloc (Below.refl _ _) _⟩
theorem ZBox.facts {w wr : World} {g : Nat} (h : ZBox w wr g) : wr.cell? ⟨g, 0, none⟩ = some (.int .u64 0) ∧ wr.cell? ⟨g, 1, none⟩ = some (.int .i64 0) ∧ wr.frozen? ⟨g, 0, none⟩ = false ∧ wr.frozen? ⟨g, 1, none⟩ = false :=
 ⟨(blk_cell h.at_ 0).trans rfl, (blk_cell h.at_ 1).trans rfl, frozen_row h.at_ 0, frozen_row h.at_ 1⟩
theorem ZBox.done {w wr : World} {g : Nat} (h : ZBox w wr g) (x y : Value) : Below w.heap.size w ((wr.setCell ⟨g, 0, none⟩ x).setCell ⟨g, 1, none⟩ y) := (h.bel.setCell h.lo _).setCell h.lo _
set_option maxRecDepth 100000 in
set_option maxHeartbeats 2000000 in
theorem qk_least {w0 w : World} {pq : Nat} {a : Qa} {n : Nat} {B : List (Nat × Obj)} (h : QOk w0 w pq a n B) (hn : n ≤ 900) :
 Calls Tryz.prog 49 #[.pointer (some ⟨pq, 0, none⟩)] w fun e w' => e = .returned (retV (allQ a).head?) ∧ Below w.heap.size w w' := by
 have HQ := Aside0.mk (h.below (ZBox.first w).bel)
 have HZ := Aside0.mk (ZBox.first w)
 obtain ⟨l, hl⟩ : ∃ l, allQ a = l := ⟨_, rfl⟩
 have HL := Aside0.mk hl
 rw [hl]
 have HLA := Aside0.mk (show l.length ≤ 1000000 by rw [← hl]; have := allQ_le a; have := h.cnt; have := h.few; omega)
 clear h hl
 go_enter Tryz.func49, Tryz.ntmps49
 go_wp2_with fail
 refine (qk_all HQ.out hn).mono ?_
 rintro e w1 ⟨v1, rfl, hv1, hb1⟩
 rw [HL.out] at hv1
 obtain ⟨A1, c1, rfl⟩ := Kd.V_slice hv1
 have HZ1 := Aside0.mk (HZ.out.below hb1)
 have HV1 := Aside0.mk (Kd.V_reads' hv1)
 clear hv1 hb1
 have HX := Aside0.mk (heap_alloc_new w1 (.cells #[.slice A1 l.length c1] 35))
 have HB2 := Aside0.mk (below_alloc (Below.refl w1.heap.size w1) (.cells #[.slice A1 l.length c1] 35))
 have HCL := Aside0.mk (one_CL HX.out HV1.out.2.1 (Kd.C_below HV1.out.2.2 HB2.out))
 have HZ2 := Aside0.mk (HZ1.out.below HB2.out)
 have HLO := Aside0.mk (least_one 10 (by omega) (l) HLA.out)
 go_wp2_with fail
 cases l with
 | nil =>
  refine (entry_Least.calls 10 _ 1 _ _ _ _ _ _ HCL.out (Nat.le_refl _) HLO.out).mono ?_
  rintro e w3 ⟨rfl, hb3⟩
  have HZ3 := Aside0.mk (HZ2.out.below hb3)
  have HZ4 := Aside0.mk (HZ3.out.below (below_alloc (Below.refl w3.heap.size w3) (.cells #[.int .u64 0, .int .i64 0] 33)))
  obtain ⟨x0, x1, y0, y1⟩ := HZ4.out.facts
  clear hb3
  go_wp2
  exact bodyPost_ret (v := retV none) (by simp [results, Tryz.results49, go_sem, x0, x1, retV, optV]) rfl ⟨rfl, HZ4.out.done _ _⟩
 | cons e0 t =>
  refine (entry_Least.calls 10 _ 1 _ _ _ _ _ _ HCL.out (Nat.le_refl _) HLO.out).mono ?_
  rintro e w3 ⟨rfl, hb3⟩
  have HZ3 := Aside0.mk (HZ2.out.below hb3)
  have HZ4 := Aside0.mk (HZ3.out.below (below_alloc (Below.refl w3.heap.size w3) (.cells #[.int .u64 e0.f0, .int .i64 e0.f1] 33)))
  obtain ⟨x0, x1, y0, y1⟩ := HZ4.out.facts
  clear hb3
  go_wp2
  exact bodyPost_ret (v := retV (some e0)) (by simp [results, Tryz.results49, go_sem, x0, x1, retV, optV]) rfl ⟨rfl, HZ4.out.done _ _⟩
theorem after_draw {b w6 : World} (hb : Below b.drew.heap.size b.drew w6) : Below b.heap.size b w6 := below_then (below_drew (Below.refl b.heap.size b)) (Nat.le_refl _) hb
theorem after_zero {b w6 : World} {cs : Array Value} {t : TypeId} (hb : Below (b.alloc (.cells cs t)).drew.heap.size (b.alloc (.cells cs t)).drew w6) : w6.heap[b.heap.size]? = some (.cells cs t (0, 0)) ∧ Below b.heap.size b w6 := by
 have h1 := below_drew (below_alloc (Below.refl b.heap.size b) (.cells cs t))
 have h0 : (b.alloc (.cells cs t)).drew.heap[b.heap.size]? = some (.cells cs t (0, 0)) := heap_alloc_new b _
 exact ⟨(hb.block _ (Array.getElem?_eq_some_iff.1 h0).1).trans h0, below_then h1 h1.size hb⟩
theorem zero_facts {w6 : World} {b : Nat} {t : TypeId} {u v : Value} (h : w6.heap[b]? = some (.cells #[u, v] t (0, 0))) : w6.cell? ⟨b, 0, none⟩ = some u ∧ w6.cell? ⟨b, 1, none⟩ = some v ∧ w6.frozen? ⟨b, 0, none⟩ = false ∧ w6.frozen? ⟨b, 1, none⟩ = false :=
 ⟨(blk_cell h 0).trans rfl, (blk_cell h 1).trans rfl, frozen_row h 0, frozen_row h 1⟩
theorem put_two {w6 : World} {b : Nat} {t : TypeId} {u v x y : Value} {n : Nat} {w : World} (h : w6.heap[b]? = some (.cells #[u, v] t (0, 0))) (hb : Below n w w6) (hn : n ≤ b) :
 ((w6.setCell ⟨b, 0, none⟩ x).setCell ⟨b, 1, none⟩ y).heap[b]? = some (.cells #[x, y] t (0, 0)) ∧ Below n w ((w6.setCell ⟨b, 0, none⟩ x).setCell ⟨b, 1, none⟩ y) :=
 ⟨blk_put (blk_put h 0 x rfl) 1 y rfl, (hb.setCell hn _).setCell hn _⟩
end Go.Proofs.YthghkglkifeagaaGreat.V
end
section
set_option linter.unusedVariables false
set_option linter.unusedSimpArgs false
namespace Go.Proofs.YthghkglkifeagaaGreat.V
open Go.RowKit Go.Proofs.YthghkglkifeagaaGreatW.PrintWords Go.Proofs.YthghkglkifeagaaGreatW.PrintLast Go.Proofs.YthghkglkifeagaaGreatW.PrintMore
theorem sortE_one (e : E) : sortE [e] = [e] := sortE_of_sorted (by simp [SortedE])
theorem aw1 : putQ (newA 2 1) 0 ⟨5, 1⟩ = ⟨1, [some ⟨5, 1⟩, none], [[], []], []⟩ := by simp [putQ, settleQ, slotQ, newA, List.replicate]
theorem aw2 : putQ ⟨1, [some ⟨5, 1⟩, none], [[], []], []⟩ 0 ⟨3, 2⟩ = ⟨1, [some ⟨3, 2⟩, none], [[⟨5, 1⟩], []], []⟩ := by simp [putQ, settleQ, slotQ, settleA, sortE_one]
theorem aw3 : allQ ⟨1, [some ⟨3, 2⟩, none], [[⟨5, 1⟩], []], []⟩ = [⟨3, 2⟩, ⟨5, 1⟩] := by
 unfold allQ slotsE
 refine sortE_eq ?_ ?_
 · simp [SortedE, leE, ltE]
 · simp
theorem aw4 : whereQ ⟨1, [some ⟨3, 2⟩, none], [[⟨5, 1⟩], []], []⟩ 1 = (2, 0) := by decide
set_option maxRecDepth 100000 in
set_option maxHeartbeats 4000000 in
theorem awake10 (w : World) : Calls Tryz.prog 14 #[] w fun e w' => e = .returned (.bool true) ∧ Below w.heap.size w w' := by
 go_enter Tryz.func14, Tryz.ntmps14
 go_wp2_with fail
 refine (q_new 2 1 w (by omega) (by omega) (by omega)).mono ?_
 rintro e w1 ⟨pq, rfl, h1⟩
 have H1 := Aside0.mk h1
 clear h1
 go_wp2_with fail
 refine (qk_put H1.out (by omega) 0 (by decide) ⟨5, 1⟩).mono ?_
 rintro e w2 ⟨rfl, h2⟩
 rw [aw1] at h2
 have H2 := Aside0.mk h2
 clear h2
 go_wp2_with fail
 refine (qk_put H2.out (by omega) 0 (by decide) ⟨3, 2⟩).mono ?_
 rintro e w3 ⟨rfl, h3⟩
 rw [aw2] at h3
 have H3 := Aside0.mk h3
 clear h3
 go_wp2_with fail
 refine (qk_least H3.out (by omega)).mono ?_
 rintro e w4 ⟨he, h4⟩
 rw [aw3] at he
 obtain rfl : e = .returned (.tuple #[.agg #[.int .u64 3, .int .i64 2], .bool true]) := he
 have hb4 := below_alloc (Below.refl w4.heap.size w4) (.cells #[.int .u64 3, .int .i64 2] 33)
 have H4 := Aside0.mk ((H3.out.below h4).below hb4)
 have HX := Aside0.mk (heap_alloc_new w4 (.cells #[.int .u64 3, .int .i64 2] 33))
 clear h4 hb4
 go_wp2_with fail
 refine (qk_where H4.out (by omega) 1).mono ?_
 rintro e w5 ⟨he, h5⟩
 rw [aw4] at he
 obtain rfl : e = .returned (.tuple #[.int .i64 2, .int .i64 0]) := he
 have H5 := Aside0.mk (H4.out.below h5)
 have hx := blk_below HX.out h5
 have x0 : w5.cell? ⟨w4.heap.size, 0, none⟩ = some (.int .u64 3) := (blk_cell hx 0).trans rfl
 have x1 : w5.cell? ⟨w4.heap.size, 1, none⟩ = some (.int .i64 2) := (blk_cell hx 1).trans rfl
 clear h5 hx HX
 go_wp2_with fail
 refine (qk_len H5.out (by omega)).mono ?_
 rintro e w6 ⟨he, h6⟩
 rw [aw3] at he
 obtain rfl : e = .returned (.int .i64 2) := he
 have HB := Aside0.mk (H5.out.below h6).bel
 clear h6 x0 x1
 go_wp2
 go_ret
 exact ⟨by first | rfl | simp, HB.out⟩
end Go.Proofs.YthghkglkifeagaaGreat.V
end
section
set_option linter.unusedVariables false
set_option linter.unusedSimpArgs false
namespace Go.Proofs.YthghkglkifeagaaGreat.V
open Go.RowKit Go.Proofs.YthghkglkifeagaaGreatW.PrintWords Go.Proofs.YthghkglkifeagaaGreatW.PrintLast Go.Proofs.YthghkglkifeagaaGreatW.PrintMore
theorem func_nilG (f : Fn) (x y : Array Value) (W : World) : (binOp .eql 34 (.func f x y) .nilFunc).run Tryz.prog W = .ok (.bool false) W := by
 have h : ∀ d, (Op.equalIn (d + 1) 34 (.func f x y) .nilFunc).run Tryz.prog W = .ok false W := fun d => by simp [Op.equalIn, run_underlying Tryz.underlying34]
 simp only [binOp]
 simp [Op.equal, Op.maxDepth, h 9999]
set_option maxRecDepth 100000 in
set_option maxHeartbeats 4000000 in
theorem shrink_gen {fid : FuncId} {cb : Array Value} {gone : Int → Bool} {Inv : World → Prop} (b : Bk) (A : Option Addr) (c : Nat) (w : World) (hf : AskI fid cb gone Inv) (hr : k33.C w A b.f1.length b.f1) (hc : b.f1.length ≤ c) (hl : b.f1.length ≤ 1000000) (h : Inv w) :
 Calls Tryz.prog 107 #[.agg #[.int .i64 b.f0, .slice A b.f1.length c], .func (.func fid) #[] cb] w fun x w' => ∃ A1 c1, x = .returned (.agg #[.int .i64 (mkB (b.f1.filter fun e => !gone e.f1)).f0, .slice A1 (mkB (b.f1.filter fun e => !gone e.f1)).f1.length c1]) ∧ Kd.V k33 33 w' w.heap.size (fun k => w.heap.size ≤ k) (.slice A1 (mkB (b.f1.filter fun e => !gone e.f1)).f1.length c1) (mkB (b.f1.filter fun e => !gone e.f1)).f1 ∧ Below w.heap.size w w' := by
 have hz := below_alloc (below_alloc (Below.refl w.heap.size w) (.cells #[.int .i64 b.f0, .slice A b.f1.length c] 109)) (.cells #[.int .i64 0, .slice none 0 0] 109)
 have HZ := Aside0.mk hz
 have HR := Aside0.mk (Kd.C_below hr hz)
 have HC := Aside0.mk (hf.stay _ _ h hz)
 have HF := Aside0.mk hf
 obtain ⟨fn, hk1, hk2, hk3⟩ := hf.known
 have HK := Aside0.mk hk1
 have HK2 := Aside0.mk hk2
 have HK3 := Aside0.mk hk3
 have HX := Aside0.mk (heap_alloc_new (w.alloc (.cells #[.int .i64 b.f0, .slice A b.f1.length c] 109)) (.cells #[.int .i64 0, .slice none 0 0] 109))
 have hnil := fun W => func_nilG (.func fid) #[] cb W
 obtain ⟨keep, hkeep⟩ : ∃ keep : E → Bool, keep = fun e => !gone e.f1 := ⟨_, rfl⟩
 have HKE := Aside0.mk hkeep
 rw [← hkeep]
 obtain ⟨L, hL⟩ : ∃ L, L = b.f1.filter keep := ⟨_, rfl⟩
 have HLE := Aside0.mk hL
 rw [← hL]
 clear hz hr h hf hk1 hk2 hk3 hkeep hL
 go_enter Tryz.func107, Tryz.ntmps107
 go_wp2
 obtain ⟨wz, hwz⟩ : ∃ wz : World, wz = (w.alloc (.cells #[.int .i64 b.f0, .slice A b.f1.length c] 109)).alloc (.cells #[.int .i64 0, .slice none 0 0] 109) := ⟨_, rfl⟩
 rw [← hwz] at HZ HR HC HX ⊢
 rw [World.size_alloc] at HX
 clear hwz
 go_loopw [5, 11] (fun q i wr => ∃ m : Nat, m ≤ b.f1.length ∧ i = .int .i64 m ∧ Aside0 (Kd.R k33 33 wr wz.heap.size (fun _ => True) q ((b.f1.take m).filter keep)) ∧ Aside0 (Below wz.heap.size wz wr)) (fun _ i _ => b.f1.length - (intOf i).toNat)
 case atStart => exact ⟨0, Nat.zero_le _, rfl, ⟨Kd.R_nil _ _ _ _ _⟩, ⟨Below.refl _ _⟩⟩
 case round =>
  obtain ⟨m, hm, rfl, HQ, HB⟩ := hrel
  by_cases hlt : m < b.f1.length
  · obtain ⟨e, he⟩ : ∃ e, b.f1[m]? = some e := ⟨_, List.getElem?_eq_getElem hlt⟩
    obtain ⟨ad, e1, y0, y1⟩ := at_T33 (Kd.C_below HR.out HB.out) (m : Int) (by omega) (by omega)
    subst e1
    rw [Int.toNat_natCast, rd_someG he] at y0 y1
    have HT := Aside0.mk (filt_take (p := keep) he)
    have hql : ((b.f1.take m).filter keep).length ≤ 1000000 := Nat.le_trans (List.length_filter_le _ _) (by rw [List.length_take]; omega)
    have HQL := Aside0.mk hql
    have HI := Aside0.mk (HF.out.stay _ _ (HF.out.stay _ _ HC.out HB.out) (below_alloc (Below.refl wr.heap.size wr) (.cells #[.int .u64 e.f0, .int .i64 e.f1] 33)))
    have hkk : keep e = !gone e.f1 := by rw [HKE.out]
    clear he hql
    cases hi : gone e.f1 with
    | true =>
     have HT2 := HT.out
     rw [hkk, hi, if_neg (by simp), List.append_nil] at HT2
     have HT3 := Aside0.mk HT2
     have HP := Aside0.mk hi
     clear HT2 hi hkk
     go_wp2_with ((with_reducible refine gate_dst (N := 21) rfl ?_); go_loud (refine goesLCg_ (some 21) rfl (by rfl) HK.out HK2.out HK3.out (#[.int .i64 e.f1] ++ cb) rfl rfl (by (try simp only [List.map_toArray, List.map_cons, List.map_nil]); first | done | rfl) ?_; refine (HF.out.call e.f1 _ HI.out).mono ?_; rintro x w2 ⟨rfl, hb2⟩; rw [HP.out]; have HB2 := Aside0.mk (below_step (below_alloc (Below.refl wr.heap.size wr) (.cells #[.int .u64 e.f0, .int .i64 e.f1] 33)) hb2); clear hb2; refine ⟨_, rfl, ?_⟩))
     go_roundw
     case rel => exact ⟨m + 1, by omega, by go_num, ⟨by rw [HT3.out]; exact Kd.R_below HQ.out HB2.out⟩, ⟨below_step HB.out HB2.out⟩⟩
     case measure => simp [intOf]; omega
    | false =>
     have HT2 := HT.out
     rw [hkk, hi, if_pos (by simp)] at HT2
     have HT3 := Aside0.mk HT2
     have HP := Aside0.mk hi
     clear HT2 hi hkk
     have HX1 := Aside0.mk (heap_alloc_new wr (.cells #[.int .u64 e.f0, .int .i64 e.f1] 33))
     go_wp2_with (first
      | ((with_reducible refine gate_dst (N := 21) rfl ?_); go_loud (refine goesLCg_ (some 21) rfl (by rfl) HK.out HK2.out HK3.out (#[.int .i64 e.f1] ++ cb) rfl rfl (by (try simp only [List.map_toArray, List.map_cons, List.map_nil]); first | done | rfl) ?_; refine (HF.out.call e.f1 _ HI.out).mono ?_; rintro x w2 ⟨rfl, hb2⟩; rw [HP.out]; have hx1 := blk_below HX1.out hb2; have k0 : w2.cell? ⟨wr.heap.size, 0, none⟩ = some (.int .u64 e.f0) := (blk_cell hx1 0).trans rfl; have k1 : w2.cell? ⟨wr.heap.size, 1, none⟩ = some (.int .i64 e.f1) := (blk_cell hx1 1).trans rfl; have HB2 := Aside0.mk (below_step (below_alloc (Below.refl wr.heap.size wr) (.cells #[.int .u64 e.f0, .int .i64 e.f1] 33)) hb2); have HQ2 := Aside0.mk (Kd.R_below HQ.out HB2.out); have HBB := Aside0.mk (below_step HB.out HB2.out); clear hb2 hx1; refine ⟨_, rfl, ?_⟩))
      | ((with_reducible refine gate_builtin (b := .append) (xs := #[.tmp 24, .tmp 26]) rfl ?_); at_builtin; go_loud (refine Kd.R_append k33 (w0 := wz) wz.heap.size rfl (.tmp 24) (.tmp 26) 35 33 (.agg #[(.int .u64 0), (.int .i64 0)]) 16 rfl Tryz.underlying35 info33 rfl (by decide) (by decide) u5 ((b.f1.take m).filter keep) e [.int .u64 e.f0, .int .i64 e.f1] (fun _ => True) (fun _ => False) rfl (by simp [Act.eval]) (k33_mkM _ _ _ e) (fun _ hk => hk.elim) (fun _ _ => trivial) HQ2.out HBB.out HBB.out.size (by have := HQL.out; omega) ?_; intro v1 w3 ho1 hb1 hg1 hat1; have HQ1 := Aside0.mk ho1; have HB1 := Aside0.mk hb1; clear ho1 hb1 hg1 hat1)))
     go_roundw
     case rel => exact ⟨m + 1, by omega, by go_num, ⟨by rw [HT3.out]; exact HQ1.out⟩, HB1⟩
     case measure => simp [intOf]; omega
  · obtain rfl : m = b.f1.length := by omega
    rw [List.take_length] at HQ
    have HOB : Aside0 (Kd.R k33 33 wr wz.heap.size (fun _ => True) u5 L) := by rw [HLE.out]; exact HQ
    have HOL := Aside0.mk (show L.length ≤ 1000000 by rw [HLE.out]; exact Nat.le_trans (List.length_filter_le _ _) hl)
    obtain ⟨A1, c1, e1⟩ := Kd.R_slice HOB.out
    subst e1
    have HRD := Aside0.mk (Kd.R_reads' HOB.out)
    have HOF := Aside0.mk (show block_Of.f 100 L = some ((mkB L).f0, (mkB L).f1) from of_told 100 _ (by have := HOL.out; omega) (by omega))
    clear HQ
    go_wp2_with fail
    refine (block_Of.calls 100 A1 c1 L _ _ wr HRD.out.2.2 HRD.out.2.1 HOF.out).mono ?_
    rintro y w4 ⟨v4, rfl, hv4, hb4⟩
    obtain ⟨A4, c4, rfl⟩ := Kd.V_slice hv4
    have HV4 := Aside0.mk hv4
    have HB4 := Aside0.mk (below_then HB.out HB.out.size hb4)
    have hx := (HB4.out.block _ (Array.getElem?_eq_some_iff.1 HX.out).1).trans HX.out
    have x0 : w4.cell? ⟨w.heap.size + 1, 0, none⟩ = some (.int .i64 0) := by simp [World.cell?, hx]
    have x1 : w4.cell? ⟨w.heap.size + 1, 1, none⟩ = some (.slice none 0 0) := by simp [World.cell?, hx]
    have f0 : w4.frozen? ⟨w.heap.size + 1, 0, none⟩ = false := by simp [World.frozen?, hx]
    have f1 : w4.frozen? ⟨w.heap.size + 1, 1, none⟩ = false := by simp [World.frozen?, hx]
    clear hv4 hb4 hx
    have HWZ : Aside0 (w.heap.size + 1 < wr.heap.size) := ⟨Nat.lt_of_lt_of_le (Array.getElem?_eq_some_iff.1 HX.out).1 HB.out.size⟩
    have HV5 := Aside0.mk (Kd.V_mono (Kd.V_far (Kd.V_far HV4.out (p := ⟨w.heap.size + 1, 0, none⟩) (fun k hk => by have := HWZ.out; show k ≠ w.heap.size + 1; omega) (.int .i64 (mkB L).f0)) (p := ⟨w.heap.size + 1, 1, none⟩) (fun k hk => by have := HWZ.out; show k ≠ w.heap.size + 1; omega) (.slice A4 (mkB L).f1.length c4)) (ok' := fun k => w.heap.size ≤ k) (fun k hk => by have := HWZ.out; omega))
    go_wp2
    exact bodyPost_ret (v := .agg #[.int .i64 (mkB L).f0, .slice A4 (mkB L).f1.length c4]) (by simp [results, Tryz.results107, go_sem, x0, x1]) rfl ⟨_, _, rfl, HV5.out, ((below_step HZ.out HB4.out).setCell (Nat.le_succ _) _).setCell (Nat.le_succ _) _⟩
end Go.Proofs.YthghkglkifeagaaGreat.V
end
section
set_option linter.unusedVariables false
set_option linter.unusedSimpArgs false
namespace Go.Proofs.YthghkglkifeagaaGreat.V
open Go.RowKit Go.Proofs.YthghkglkifeagaaGreatW.PrintWords Go.Proofs.YthghkglkifeagaaGreatW.PrintLast Go.Proofs.YthghkglkifeagaaGreatW.PrintMore
def BoxF (W : World) (f g : Nat) (id : Int) : Prop := W.heap[f]? = some (.cells #[.func (.func 109) #[] #[.pointer (some ⟨g, 0, none⟩)]] 90 (0, 0)) ∧ BoxI W g id
theorem BoxF.below {W W1 : World} {f g : Nat} {id : Int} (h : BoxF W f g id) (hb : Below W.heap.size W W1) : BoxF W1 f g id := ⟨blk_below h.1 hb, h.2.below hb⟩
theorem BoxF.c0 {W : World} {f g : Nat} {id : Int} (h : BoxF W f g id) : W.cell? ⟨f, 0, none⟩ = some (.func (.func 109) #[] #[.pointer (some ⟨g, 0, none⟩)]) := (blk_cell h.1 0).trans rfl
set_option maxHeartbeats 400000 in
theorem askD1 (g : Nat) (id : Int) : AskE 109 #[.pointer (some ⟨g, 0, none⟩)] (isId id) (fun W => BoxI W g id) := by
 refine ⟨⟨_, Tryz.func109, by kernel_rfl, rfl⟩, fun _ _ h hb => h.below hb, fun e W hi => ?_⟩
 have c0 := (hi.below (below_alloc (Below.refl W.heap.size W) (.cells #[.int .u64 e.f0, .int .i64 e.f1] 33))).c0
 clear hi
 show Calls Tryz.prog 109 #[.agg #[.int .u64 e.f0, .int .i64 e.f1], .pointer (some ⟨g, 0, none⟩)] W _
 unfold isId
 go_enter Tryz.func109, Tryz.ntmps109
 go_wp2
 go_ret
 exact ⟨by first | rfl | simp, below_alloc (Below.refl _ _) _⟩
set_option maxHeartbeats 400000 in
theorem askD3 (g : Nat) (id : Int) : AskI 111 #[.pointer (some ⟨g, 0, none⟩)] (fun x => decide (x = id)) (fun W => BoxI W g id) := by
 refine ⟨⟨_, Tryz.func111, by kernel_rfl, rfl⟩, fun _ _ h hb => h.below hb, fun x W hi => ?_⟩
 have c0 := hi.c0
 clear hi
 show Calls Tryz.prog 111 #[.int .i64 x, .pointer (some ⟨g, 0, none⟩)] W _
 go_enter Tryz.func111, Tryz.ntmps111
 go_wp2
 go_ret
 exact ⟨by first | rfl | simp, Below.refl _ _⟩
def hasId (id : Int) (b : Bk) : Bool := b.f1.any (isId id)
set_option maxHeartbeats 800000 in
theorem askD2 (f g : Nat) (id : Int) (bs : List Bk) (ha : (allB bs).length ≤ 1000000) : AskB 110 #[.pointer (some ⟨f, 0, none⟩)] (hasId id) bs (fun W => BoxF W f g id) := by
 refine ⟨⟨_, Tryz.func110, by kernel_rfl, rfl⟩, fun _ _ h hb => h.below hb, fun b A c W hb hi hr hc => ?_⟩
 have hl : b.f1.length ≤ 1000000 := by
  obtain ⟨i, hi, rfl⟩ := List.getElem_of_mem hb
  have := allB_at_le (List.getElem?_eq_getElem hi)
  omega
 have HZ := Aside0.mk (below_alloc (Below.refl W.heap.size W) (.cells #[.int .i64 b.f0, .slice A b.f1.length c] 109))
 have HI := Aside0.mk (hi.below HZ.out)
 have c0 := HI.out.c0
 have HR := Aside0.mk (Kd.C_below hr HZ.out)
 clear hi hr hb
 show Calls Tryz.prog 110 #[.agg #[.int .i64 b.f0, .slice A b.f1.length c], .pointer (some ⟨f, 0, none⟩)] W _
 unfold hasId
 go_enter Tryz.func110, Tryz.ntmps110
 go_wp2_with fail
 refine (econt_gen A c b.f1 _ (askD1 g id) HR.out hc hl HI.out.2).mono ?_
 rintro x w2 ⟨rfl, hb2⟩
 have HB2 := Aside0.mk (below_step HZ.out hb2)
 clear hb2
 go_wp2
 go_ret
 exact ⟨rfl, HB2.out⟩
def dropS (id : Int) (bs : List Bk) : Bool × List Bk :=
  match bs.findIdx? (hasId id) with
  | none => (false, bs)
  | some i => (true, if (outB id (bs.getD i ⟨0, []⟩)) = [] then bs.eraseIdx i else bs.set i (mkB (outB id (bs.getD i ⟨0, []⟩))))
theorem out_filter (id : Int) (b : Bk) : (b.f1.filter fun e => !decide (e.f1 = id)) = outB id b := by
 unfold outB
 congr 1
 funext e
 by_cases h : e.f1 = id <;> simp [h]
theorem dropS_okB {id : Int} {bs : List Bk} (h : ∀ b ∈ bs, okB b = true) : ∀ b ∈ (dropS id bs).2, okB b = true := by
 unfold dropS
 cases hf : bs.findIdx? (hasId id) with
 | none => exact h
 | some i =>
  dsimp only
  split
  · exact fun b hb => h b (List.mem_of_mem_eraseIdx hb)
  · intro b hb
    rcases List.mem_or_eq_of_mem_set hb with hb | rfl
    · exact h b hb
    · exact okB_mk _
theorem set_all {bs : List Bk} {i : Nat} {b : Bk} (hb : bs[i]? = some b) (l : List E) : (allB (bs.set i (mkB l))).Perm (l ++ allB (bs.eraseIdx i)) := by
 have hlt := (List.getElem?_eq_some_iff.1 hb).1
 have hb' : (bs.set i (mkB l))[i]? = some (mkB l) := by rw [List.getElem?_set_self hlt]
 have h1 := erase_all hb'
 have h2 : (bs.set i (mkB l)).eraseIdx i = bs.eraseIdx i := by
  rw [List.eraseIdx_eq_take_drop_succ, List.eraseIdx_eq_take_drop_succ, List.take_set, List.drop_set, if_pos (by omega), List.set_eq_of_length_le (by rw [List.length_take]; omega)]
 rw [h2] at h1
 exact h1.trans ((sortE_perm l).append_right _)
theorem dropS_some {id : Int} {bs : List Bk} {i : Nat} {b : Bk} (hf : bs.findIdx? (hasId id) = some i) (hb : bs[i]? = some b) : dropS id bs = (true, if outB id b = [] then bs.eraseIdx i else bs.set i (mkB (outB id b))) := by
 unfold dropS
 rw [hf]
 have : bs.getD i ⟨0, []⟩ = b := by rw [List.getD_eq_getElem?_getD, hb]; rfl
 simp only [this]
theorem dropS_none {id : Int} {bs : List Bk} (hf : bs.findIdx? (hasId id) = none) : dropS id bs = (false, bs) := by unfold dropS; rw [hf]
theorem dropS_all {id : Int} {bs : List Bk} {i : Nat} {b : Bk} (hf : bs.findIdx? (hasId id) = some i) (hb : bs[i]? = some b) : (allB (dropS id bs).2).Perm (outB id b ++ allB (bs.eraseIdx i)) := by
 rw [dropS_some hf hb]
 dsimp only
 split
 · rename_i h0; rw [h0]; exact List.Perm.refl _
 · exact set_all hb _
theorem dropS_few {id : Int} {bs : List Bk} : (dropS id bs).2.length ≤ bs.length ∧ (allB (dropS id bs).2).length ≤ (allB bs).length := by
 cases hf : bs.findIdx? (hasId id) with
 | none => rw [dropS_none hf]; exact ⟨Nat.le_refl _, Nat.le_refl _⟩
 | some i =>
  have hlt : i < bs.length := by rw [List.findIdx?_eq_some_iff_getElem] at hf; exact hf.1
  have hb := List.getElem?_eq_getElem hlt
  refine ⟨?_, ?_⟩
  · rw [dropS_some hf hb]
    dsimp only
    split
    · exact List.length_eraseIdx_le _ _
    · rw [List.length_set]; exact Nat.le_refl _
  · rw [(dropS_all hf hb).length_eq, (erase_all hb).length_eq, List.length_append, List.length_append]
    have : (outB id bs[i]).length ≤ bs[i].f1.length := List.length_filter_le _ _
    omega
def DropPost [XSet] (base p : Nat) (ver : Int) (bs : List Bk) (id : Int) (w : World) (x : Ending) (w' : World) : Prop :=
  x = .returned (.bool (dropS id bs).1) ∧ ∃ v', ShAt w' base p (if (dropS id bs).1 = true then ver + 1 else ver) v' (dropS id bs).2 ∧ w.grownBy w' (some p)
theorem dropPost_mk [XSet] {base p : Nat} {ver : Int} {bs : List Bk} {id : Int} {w w' : World} {x : Ending} {r : Bool} {cs : List Bk} {v : Value} {ver' : Int} (hd : dropS id bs = (r, cs)) (hx : x = .returned (.bool r)) (hv : ver' = if r = true then ver + 1 else ver) (hs : ShAt w' base p ver' v cs) (hg : w.grownBy w' (some p)) : DropPost base p ver bs id w x w' := by
 unfold DropPost
 rw [hd]
 subst hv
 exact ⟨hx, v, hs, hg⟩
theorem run_store_funcS (P : Program) (w : World) (a : Addr) (m : Mode) (f : Fn) (x y : Array Value) : (store a (.func f x y) m).run P w = stored P w a (.func f x y) m := run_store P w a _ m rfl
attribute [local go_sem] run_store_funcS
set_option maxRecDepth 100000 in
set_option maxHeartbeats 8000000 in
theorem sh_drop [XSet] (base p : Nat) (ver : Int) (v : Value) (bs : List Bk) (id : Int) (w : World) (h : ShAt w base p ver v bs) (hv : 0 ≤ ver ∧ ver ≤ 1000000) (hl : bs.length ≤ 900) (ha : (allB bs).length ≤ 1000000) (hok : ∀ b ∈ bs, okB b = true) :
 Calls Tryz.prog 81 #[.pointer (some ⟨p, 0, none⟩), .int .i64 id] w (DropPost base p ver bs id w) := by
 have hz := below_alloc (below_alloc (Below.refl w.heap.size w) (.cells #[.int .i64 id] 3)) (.cells #[.func (.func 109) #[] #[.pointer (some ⟨w.heap.size, 0, none⟩)]] 90)
 have HZ := Aside0.mk hz
 have HBF := Aside0.mk (show BoxF ((w.alloc (.cells #[.int .i64 id] 3)).alloc (.cells #[.func (.func 109) #[] #[.pointer (some ⟨w.heap.size, 0, none⟩)]] 90)) (w.heap.size + 1) w.heap.size id from ⟨(two_boxes w _ _).2.1, (two_boxes w _ _).1⟩)
 have HS := Aside0.mk h
 have HV := Aside0.mk hv
 have HA := Aside0.mk ha
 have HOK := Aside0.mk hok
 have HSZ := Aside0.mk (h.below hz)
 have hpz := HSZ.out.cell1
 obtain ⟨A, c, hve, hc, hf0⟩ := HSZ.out.reads
 subst hve
 have HF := Aside0.mk hf0
 clear hz h ha hok hf0
 go_enter Tryz.func81, Tryz.ntmps81
 go_wp2_with fail
 refine (bidx_gen A c bs _ (askD2 (w.heap.size + 1) w.heap.size id bs HA.out) (Kd.F_now HF.out) hc (by omega) HBF.out).mono ?_
 rintro y w1 ⟨rfl, hb1⟩
 have HS1 := Aside0.mk (HSZ.out.below hb1)
 have HBF1 := Aside0.mk (HBF.out.below hb1)
 have HB1 := Aside0.mk (below_step HZ.out hb1)
 have HF1 := Aside0.mk (Kd.F_below HF.out hb1)
 clear hb1 hpz HF HBF HSZ
 cases hf : bs.findIdx? (hasId id) with
 | none =>
  have HD := Aside0.mk (dropS_none hf)
  clear hf
  rw [show posB none = -1 from rfl]
  go_wp2
  go_ret
  exact dropPost_mk HD.out rfl (if_neg (by simp)).symm HS1.out ⟨HB1.out.os, HB1.out.tape, HB1.out.output, HB1.out.size, fun k hk _ => HB1.out.block k hk⟩
 | some i =>
  have hlt : i < bs.length := by rw [List.findIdx?_eq_some_iff_getElem] at hf; exact hf.1
  obtain ⟨b, hb⟩ : ∃ b, bs[i]? = some b := ⟨_, List.getElem?_eq_getElem hlt⟩
  have HD := Aside0.mk (dropS_some hf hb)
  have HOKD := Aside0.mk (dropS_okB (id := id) HOK.out)
  have HFW := Aside0.mk (dropS_few (id := id) (bs := bs))
  have HBb := Aside0.mk hb
  have hp1 := HS1.out.cell1
  have hle := allB_at_le hb
  have HBL := Aside0.mk (show b.f1.length ≤ 1000000 by have := HA.out; omega)
  have d0 : decide ((i : Int) < 0) = false := decide_eq_false (by omega)
  clear hf hb hle
  rw [show posB (some i) = (i : Int) from rfl]
  go_wp2_with fail
  refine (bclone (fun k => XSet.ok k ∧ k ≠ p) A c bs _ HF1.out hc (by omega)).mono ?_
  rintro y w2 ⟨v2, rfl, hn2, hb2⟩
  have HS2 := Aside0.mk (HS1.out.below hb2)
  have HB2 := Aside0.mk (below_step HB1.out hb2)
  have HI2 := Aside0.mk (HBF1.out.2.below hb2)
  have HN2 := Aside0.mk (show Kd.N k109 109 w2 w1.heap.size (fun k => XSet.ok k ∧ k ≠ p) v2 bs from Kd.N_mono hn2 (fun k hk => by
   have := HS1.out.lt
   rcases hk with hk | hk
   · exact hk
   · exact ⟨HS1.out.fresh hk, by omega⟩))
  obtain ⟨g, cap, hform, hgb, hgl, _⟩ := Kd.N_form HN2.out (by omega)
  subst hform
  obtain ⟨A2, k2, x0, x1, hbl, hbk, hbf⟩ := bk_elem HN2.out HBb.out
  obtain ⟨_, _, e4, _, hbF⟩ := k109_openF hbk
  injection e4 with _ e4
  injection e4 with e4
  injection e4 with h1 h2 h3
  subst h1; subst h3
  have HCB := Aside0.mk (Kd.F_now hbF)
  have HXF := Aside0.mk hbf
  have HGL := Aside0.mk (show g < w2.heap.size ∧ w1.heap.size ≤ g ∧ p < w1.heap.size from ⟨hgl, hgb, HS1.out.lt⟩)
  have hin : (i : Int) < (bs.length : Int) := by omega
  have hin0 : (0 : Int) ≤ (i : Int) := by omega
  clear hn2 hb2 hp1 hbF hbk hbf hgl hgb
  go_wp2_with fail
  refine (shrink_gen b A2 k2 _ (askD3 w.heap.size id) HCB.out hbl HBL.out HI2.out).mono ?_
  rintro y w3 ⟨A3, c3, rfl, hv3, hb3⟩
  rw [out_filter] at hv3 ⊢
  have HB3 := Aside0.mk (below_step HB2.out hb3)
  have HS3 := Aside0.mk (HS2.out.below hb3)
  have n0 := pw_cell_below hb3 x0
  have n1 := pw_cell_below hb3 x1
  have f0 := froz_below hb3 HGL.out.1 (HXF.out 0)
  have f1 := froz_below hb3 HGL.out.1 (HXF.out 1)
  rw [Nat.add_zero] at f0
  have HN3 := Aside0.mk (Kd.N_below HN2.out hb3)
  have HN4 := Aside0.mk (show Kd.N k109 109 ((w3.setCell ⟨g, i * 2, none⟩ (.int .i64 (mkB (outB id b)).f0)).setCell ⟨g, i * 2 + 1, none⟩ (.slice A3 (mkB (outB id b)).f1.length c3)) w1.heap.size (fun k => XSet.ok k ∧ k ≠ p) (.slice (some ⟨g, 0, none⟩) bs.length cap) (bs.set i (mkB (outB id b))) from
   bk_set HN3.out hlt (fk_new (base := 0) (N := w2.heap.size) (Kd.V_lower hv3 (Nat.zero_le _)) (fun k hk => by have := HGL.out; exact ⟨⟨HS2.out.fresh hk, by have := HS2.out.lt; omega⟩, by omega⟩)))
  have HB4 := Aside0.mk (show Below w.heap.size w ((w3.setCell ⟨g, i * 2, none⟩ (.int .i64 (mkB (outB id b)).f0)).setCell ⟨g, i * 2 + 1, none⟩ (.slice A3 (mkB (outB id b)).f1.length c3)) from below_set (below_set HB3.out (by have := HGL.out; have := HB1.out.size; omega)) (by have := HGL.out; have := HB1.out.size; omega))
  have HS4 := Aside0.mk (HS.out.below HB4.out)
  have hsx : (bs.set i (mkB (outB id b)))[i]? = some (mkB (outB id b)) := by rw [List.getElem?_set_self hlt]
  obtain ⟨A6, k6, z0, z1, _, _, _⟩ := bk_elem HN4.out hsx
  have hxl : (mkB (outB id b)).f1.length = (outB id b).length := sortE_length _
  have hsl : (bs.set i (mkB (outB id b))).length = bs.length := List.length_set
  have hp4 := HS4.out.cell0
  have HBZ := Aside0.mk (show w1.heap.size ≤ ((w3.setCell ⟨g, i * 2, none⟩ (.int .i64 (mkB (outB id b)).f0)).setCell ⟨g, i * 2 + 1, none⟩ (.slice A3 (mkB (outB id b)).f1.length c3)).heap.size by have := HGL.out; have := hb3.size; simp; omega)
  have HSL := Aside0.mk hsl
  clear hv3 hb3 hsx x0 x1 hsl
  by_cases h0 : outB id b = []
  · have h00 : (mkB (outB id b)).f1.length = 0 := by rw [hxl, h0]; rfl
    have HD2 := HD.out
    rw [if_pos h0] at HD2
    have HD3 := Aside0.mk HD2
    have HER := Aside0.mk (show (bs.set i (mkB (outB id b))).eraseIdx i = bs.eraseIdx i by
     rw [List.eraseIdx_eq_take_drop_succ, List.eraseIdx_eq_take_drop_succ, List.take_set, List.drop_set, if_pos (by omega)]
     rw [List.set_eq_of_length_le (by rw [List.length_take]; omega)])
    have HLN := Aside0.mk (show (bs.eraseIdx i).length = bs.length - 1 by rw [List.length_eraseIdx, if_pos hlt])
    have q1 : (((mkB (outB id b)).f1.length : Int) == 0) = true := by rw [h00]; rfl
    have q2 : decide ((mkB (outB id b)).f1.length = 0) = true := decide_eq_true h00
    have q3 : decide ((mkB (outB id b)).f1 = []) = true := decide_eq_true (List.length_eq_zero_iff.1 h00)
    clear h0 h00 hxl HD2
    go_wp2_with fail
    refine (bdel w1.heap.size g bs.length cap i _ (bs.set i (mkB (outB id b))) _ HN4.out hlt (by omega) HBZ.out).mono ?_
    rintro y w5 ⟨rfl, hn5, hg5⟩
    rw [HER.out] at hn5
    have HB5 := Aside0.mk (below_grown HB4.out hg5 (fun k hk => by injection hk with hk; have := HGL.out; have := HB1.out.size; omega))
    have HS5 := Aside0.mk (HS.out.below HB5.out)
    have hp5 := HS5.out.cell0
    have HN5 := Aside0.mk hn5
    have HSW := Aside0.mk (show (∀ b ∈ bs.eraseIdx i, okB b = true) ∧ (bs.eraseIdx i).length ≤ 1000 ∧ (allB (bs.eraseIdx i)).length ≤ 1000000 from by
     have h1 := HOKD.out
     have h2 := HFW.out
     rw [HD3.out] at h1 h2
     dsimp only at h1 h2
     exact ⟨h1, by have := h2.1; omega, by have := h2.2; have := HA.out; omega⟩)
    rw [← HLN.out]
    clear hn5 hg5 z0 z1 hp4 q1 q2 q3
    go_wp2_with fail
    refine (sh_swap_yes base p ver _ bs (bs.eraseIdx i) (some ⟨g, 0, none⟩) cap _ HS5.out HV.out (by have := Kd.N_F HN5.out; rwa [← HLN.out] at this) (by have := (Kd.N_reads' HN5.out).2.1; have := HLN.out; omega) HSW.out.1 HSW.out.2.1 HSW.out.2.2).mono ?_
    rintro y w6 ⟨rfl, v6, hs6, hg6⟩
    have HE := Aside0.mk (show ShAt w6 base p (ver + 1) v6 (bs.eraseIdx i) ∧ w.grownBy w6 (some p) from ⟨hs6, grown_after HB5.out hg6⟩)
    clear hs6 hg6
    go_wp2
    go_ret
    exact dropPost_mk HD3.out rfl (if_pos rfl).symm HE.out.1 HE.out.2
  · have HD2 := HD.out
    rw [if_neg h0] at HD2
    have HD3 := Aside0.mk HD2
    have hpos : 0 < (outB id b).length := by
     cases hq : outB id b with
     | nil => exact absurd hq h0
     | cons _ _ => simp
    have q1 : (((mkB (outB id b)).f1.length : Int) == 0) = false := by rw [beq_eq_false_iff_ne]; omega
    have q2 : decide ((mkB (outB id b)).f1.length = 0) = false := decide_eq_false (by omega)
    have q3 : decide ((mkB (outB id b)).f1 = []) = false := decide_eq_false (by intro e; rw [e] at hxl; simp at hxl; omega)
    have q4 : ¬ ((mkB (outB id b)).f1 = []) := by intro e; rw [e] at hxl; simp at hxl; omega
    have HSW := Aside0.mk (show (∀ q ∈ bs.set i (mkB (outB id b)), okB q = true) ∧ (bs.set i (mkB (outB id b))).length ≤ 1000 ∧ (allB (bs.set i (mkB (outB id b)))).length ≤ 1000000 from by
     have h1 := HOKD.out
     have h2 := HFW.out
     rw [HD3.out] at h1 h2
     dsimp only at h1 h2
     exact ⟨h1, by have := h2.1; omega, by have := h2.2; have := HA.out; omega⟩)
    clear h0 hpos hxl HD2
    go_wp2_with fail
    rw [← HSL.out]
    refine (sh_swap_yes base p ver _ bs (bs.set i (mkB (outB id b))) (some ⟨g, 0, none⟩) cap _ HS4.out HV.out (by have := Kd.N_F HN4.out; rwa [← HSL.out] at this) (by have := (Kd.N_reads' HN4.out).2.1; have := HSL.out; omega) HSW.out.1 HSW.out.2.1 HSW.out.2.2).mono ?_
    rintro y w6 ⟨rfl, v6, hs6, hg6⟩
    have HE := Aside0.mk (show ShAt w6 base p (ver + 1) v6 (bs.set i (mkB (outB id b))) ∧ w.grownBy w6 (some p) from ⟨hs6, grown_after HB4.out hg6⟩)
    clear hs6 hg6 q1 q2 q3 q4 z0 z1
    go_wp2
    go_ret
    exact dropPost_mk HD3.out rfl (if_pos rfl).symm HE.out.1 HE.out.2
end Go.Proofs.YthghkglkifeagaaGreat.V
end
section
set_option linter.unusedVariables false
set_option linter.unusedSimpArgs false
namespace Go.Proofs.YthghkglkifeagaaGreat.V
open Go.RowKit Go.Proofs.YthghkglkifeagaaGreatW.PrintWords Go.Proofs.YthghkglkifeagaaGreatW.PrintLast Go.Proofs.YthghkglkifeagaaGreatW.PrintMore
theorem isId_true {id : Int} {e : E} : isId id e = true ↔ e.f1 = id := by unfold isId; exact decide_eq_true_iff
theorem isId_false {id : Int} {e : E} : isId id e = false ↔ e.f1 ≠ id := by unfold isId; exact decide_eq_false_iff_not
def others (id : Int) (es : List E) : List E := es.filter fun e => !isId id e
theorem others_none {id : Int} {es : List E} (h : es.any (isId id) = false) : others id es = es := by
 unfold others
 refine List.filter_eq_self.2 fun e he => ?_
 rw [List.any_eq_false] at h
 simp [h e he]
theorem others_perm {id : Int} {es fs : List E} (h : es.Perm fs) : (others id es).Perm (others id fs) := h.filter _
theorem out_others (id : Int) (b : Bk) : outB id b = others id b.f1 := (out_filter id b).symm
theorem any_perm {id : Int} {es fs : List E} (h : es.Perm fs) : es.any (isId id) = fs.any (isId id) := by
 rw [Bool.eq_iff_iff, List.any_eq_true, List.any_eq_true]
 exact ⟨fun ⟨x, hx, h2⟩ => ⟨x, h.mem_iff.1 hx, h2⟩, fun ⟨x, hx, h2⟩ => ⟨x, h.mem_iff.2 hx, h2⟩⟩
theorem any_allB (id : Int) (bs : List Bk) : (allB bs).any (isId id) = bs.any (hasId id) := by
 induction bs with
 | nil => rw [allB_nil]; rfl
 | cons b t ih => rw [allB_cons, List.any_append, ih, List.any_cons]; rfl
theorem dropS_out {id : Int} {bs : List Bk} {es : List E} (hp : (allB bs).Perm es) (hu : Unlike es) : (dropS id bs).1 = es.any (isId id) ∧ (allB (dropS id bs).2).Perm (others id es) := by
 cases hf : bs.findIdx? (hasId id) with
 | none =>
  rw [dropS_none hf]
  have h0 : bs.any (hasId id) = false := by
   rw [List.findIdx?_eq_none_iff] at hf
   rw [List.any_eq_false]
   intro b hb
   simp [hf b hb]
  have h1 : es.any (isId id) = false := by rw [← any_perm hp, any_allB, h0]
  exact ⟨h1.symm, by rw [others_none h1]; exact hp⟩
 | some i =>
  rw [List.findIdx?_eq_some_iff_getElem] at hf
  obtain ⟨hlt, hb2, _⟩ := hf
  have hf : bs.findIdx? (hasId id) = some i := by rw [List.findIdx?_eq_some_iff_getElem]; exact ⟨hlt, hb2, by assumption⟩
  have hb := List.getElem?_eq_getElem hlt
  have h1 : bs.any (hasId id) = true := List.any_eq_true.2 ⟨_, List.getElem_mem hlt, hb2⟩
  have h2 : es.any (isId id) = true := by rw [← any_perm hp, any_allB, h1]
  refine ⟨by rw [dropS_some hf hb, h2], ?_⟩
  have h3 := (erase_all hb).symm.trans hp
  have h4 : (others id (bs[i].f1 ++ allB (bs.eraseIdx i))).Perm (others id es) := others_perm h3
  have h5 : others id (allB (bs.eraseIdx i)) = allB (bs.eraseIdx i) := by
   apply others_none
   rw [List.any_eq_false]
   intro e he hid
   have hu2 : Unlike (bs[i].f1 ++ allB (bs.eraseIdx i)) := hu.perm h3.symm
   unfold Unlike at hu2
   rw [List.map_append, List.nodup_append] at hu2
   unfold hasId at hb2
   obtain ⟨a, ha, hida⟩ := List.any_eq_true.1 hb2
   exact hu2.2.2 a.f1 (List.mem_map_of_mem ha) e.f1 (List.mem_map_of_mem he) (by rw [isId_true.1 hida, isId_true.1 hid])
  have h6 := dropS_all hf hb
  rw [out_others, ← h5] at h6
  refine h6.trans ?_
  rw [← show others id (bs[i].f1 ++ allB (bs.eraseIdx i)) = others id bs[i].f1 ++ others id (allB (bs.eraseIdx i)) from List.filter_append ..]
  exact h4
theorem others_len {id : Int} {es : List E} (hu : Unlike es) (r : Bool) (hr : es.any (isId id) = r) : (others id es).length + (if r = true then 1 else 0) = es.length := by
 subst hr
 induction es with
 | nil => rfl
 | cons a t ih =>
  unfold Unlike at hu
  rw [List.map_cons, List.nodup_cons] at hu
  have ih2 := ih hu.2
  by_cases ha : a.f1 = id
  · have h1 : t.any (isId id) = false := by
     rw [List.any_eq_false]
     intro e he hid
     exact hu.1 (by rw [ha, ← isId_true.1 hid]; exact List.mem_map_of_mem he)
    have h2 : isId id a = true := isId_true.2 ha
    have h3 : others id (a :: t) = others id t := by unfold others; rw [List.filter_cons, h2]; rfl
    rw [h3, others_none h1, List.any_cons, h2]
    rfl
  · have h2 : isId id a = false := isId_false.2 ha
    have h3 : others id (a :: t) = a :: others id t := by unfold others; rw [List.filter_cons, h2]; rfl
    rw [h3, List.any_cons, h2, Bool.false_or, List.length_cons, List.length_cons]
    omega
theorem others_any {id j : Int} {es : List E} : (others id es).any (isId j) = (!decide (j = id) && es.any (isId j)) := by
 rw [Bool.eq_iff_iff, List.any_eq_true]
 unfold others
 constructor
 · rintro ⟨x, hx, hj⟩
   rw [List.mem_filter] at hx
   have h1 := isId_true.1 hj
   have h2 : ¬ (j = id) := by
    intro e
    have : isId id x = true := isId_true.2 (by rw [h1, e])
    rw [this] at hx
    exact absurd hx.2 (by simp)
   rw [Bool.and_eq_true]
   exact ⟨by simp [h2], List.any_eq_true.2 ⟨x, hx.1, hj⟩⟩
 · intro h
   rw [Bool.and_eq_true] at h
   obtain ⟨x, hx, hj⟩ := List.any_eq_true.1 h.2
   have h1 := isId_true.1 hj
   have h2 : ¬ (j = id) := by have := h.1; simpa using this
   exact ⟨x, List.mem_filter.2 ⟨hx, by rw [isId_false.2 (by rw [h1]; exact h2)]; rfl⟩, hj⟩
structure KpP (keys : List Int) (i : Nat) (es : List E) (L : List Bool) : Prop where
  len : L.length = 31
  un : Unlike es
  mem : ∀ e ∈ es, ∃ j : Nat, j < i ∧ e.f1 = (j : Int) + 1 ∧ keys[j]? = some e.f0
  th : ∀ j : Nat, L.getD j false = es.any (isId (j : Int))
namespace KpP
variable {keys : List Int} {i : Nat} {es : List E} {L : List Bool}
theorem put (h : KpP keys i es L) {x : Int} (hx : keys[i]? = some x) (hi : i < 30) : KpP keys (i + 1) (⟨x, (i : Int) + 1⟩ :: es) (L.set (i + 1) true) := by
 refine ⟨by rw [List.length_set, h.len], ?_, ?_, fun j => ?_⟩
 · unfold Unlike
   rw [List.map_cons, List.nodup_cons]
   refine ⟨fun hm => ?_, h.un⟩
   obtain ⟨e, he, h1⟩ := List.mem_map.1 hm
   obtain ⟨j, hj, h2, _⟩ := h.mem e he
   dsimp only at h1
   omega
 · intro e he
   rcases List.mem_cons.1 he with rfl | he
   · exact ⟨i, by omega, rfl, hx⟩
   · obtain ⟨j, hj, h2, h3⟩ := h.mem e he
     exact ⟨j, by omega, h2, h3⟩
 · rw [List.getD_eq_getElem?_getD, List.getElem?_set, List.any_cons]
   by_cases hj : i + 1 = j
   · subst hj
     rw [if_pos rfl, if_pos (by rw [h.len]; omega)]
     rw [show isId (((i + 1 : Nat)) : Int) (⟨x, (i : Int) + 1⟩ : E) = true from isId_true.2 (by push_cast; rfl)]
     rfl
   · rw [if_neg hj, show isId (j : Int) (⟨x, (i : Int) + 1⟩ : E) = false from isId_false.2 (by dsimp only; omega), Bool.false_or, ← h.th, List.getD_eq_getElem?_getD]
theorem out (h : KpP keys i es L) (k : Nat) : KpP keys i (others (k : Int) es) (L.set k false) := by
 refine ⟨by rw [List.length_set, h.len], h.un.sub List.filter_sublist, fun e he => h.mem e ((List.mem_filter.1 he).1), fun j => ?_⟩
 rw [others_any, ← h.th, List.getD_eq_getElem?_getD, List.getElem?_set]
 by_cases hj : k = j
 · subst hj
   rw [if_pos rfl]
   split <;> simp
 · rw [if_neg hj, ← List.getD_eq_getElem?_getD]
   rw [show decide ((j : Int) = (k : Int)) = false from decide_eq_false (by omega)]
   rfl
theorem stay (h : KpP keys i es L) (k : Nat) (hk : L.getD k false = false) : KpP keys i (others (k : Int) es) L := by
 rw [others_none (by rw [← h.th]; exact hk)]; exact h
end KpP
end Go.Proofs.YthghkglkifeagaaGreat.V
end
