-- a text of this work, without what this claim doesn't use (wip/shake.py)
import Derived.Test.YtfhapffjnafkbaaAVSlotH
import Derived.BigRegion
import Derived.BigQuiet
import Derived.Deep.QuietTactic
import Derived.Test.YtfhapffjnafkbaaAWMore
import Derived.SizedLaws
import Derived.ChangeSlices
import Derived.WalkKit
import Derived.ProofKit
import Derived.OpenShut
import Derived.ShutString
import Derived.ChangeOld
import Derived.Below
import Derived.Deep.Slices
section
set_option linter.unusedVariables false
set_option linter.unusedSimpArgs false
namespace Go.Proofs.Ytfhapffjnafkbaa.V
open Go.RowKit Go.Proofs.YtfhapffjnafkbaaW.PrintWords Go.Proofs.YtfhapffjnafkbaaW.PrintLast Go.Proofs.YtfhapffjnafkbaaW.PrintMore
def bitA (x : Int) (m : Nat) : Bool := bits BinOp.and IntKind.i64 (x / 2 ^ m) 1 == 1
structure InvA (b : Nat → Bool) (P : List One) : Prop where
  full : ∀ (j : Nat) (o : One), P[j]? = some o → o.full = b j
  id : ∀ (j : Nat) (o : One), P[j]? = some o → o.full = true → o.id = (j : Int) + 1
  le : ∀ e ∈ allO P, e.f1 ≤ (P.length : Int)
  up : (allO P).Pairwise fun x y => x.f1 < y.f1
theorem allO_app (P Q : List One) : allO (P ++ Q) = allO P ++ allO Q := by unfold allO; rw [List.filter_append, List.map_append]
theorem invA_nil (b : Nat → Bool) : InvA b [] := ⟨fun j o h => by simp at h, fun j o h => by simp at h, fun e h => by simp [allO] at h, List.Pairwise.nil⟩
theorem invA_put {b : Nat → Bool} {P : List One} (h : InvA b P) (hb : b P.length = true) (k v : Int) : InvA b (P ++ [⟨k, (P.length : Int) + 1, true, v⟩]) := by
 refine ⟨?_, ?_, ?_, ?_⟩
 · intro j o hj
   rcases Nat.lt_trichotomy j P.length with h1 | h1 | h1
   · rw [List.getElem?_append_left h1] at hj; exact h.full j o hj
   · subst h1; rw [List.getElem?_append_right (Nat.le_refl _), Nat.sub_self] at hj; simp at hj; subst hj; exact hb.symm
   · rw [List.getElem?_eq_none (by simp; omega)] at hj; cases hj
 · intro j o hj hf
   rcases Nat.lt_trichotomy j P.length with h1 | h1 | h1
   · rw [List.getElem?_append_left h1] at hj; exact h.id j o hj hf
   · subst h1; rw [List.getElem?_append_right (Nat.le_refl _), Nat.sub_self] at hj; simp at hj; subst hj; rfl
   · rw [List.getElem?_eq_none (by simp; omega)] at hj; cases hj
 · intro e he
   rw [allO_app, List.mem_append] at he
   rw [List.length_append, List.length_singleton]
   rcases he with he | he
   · have := h.le e he; omega
   · simp [allO] at he; subst he; show _ ≤ _; simp
 · rw [allO_app, List.pairwise_append]
   refine ⟨h.up, by simp [allO], fun x hx y hy => ?_⟩
   simp [allO] at hy
   subst hy
   have := h.le x hx
   show x.f1 < _
   simp
   omega
theorem invA_skip {b : Nat → Bool} {P : List One} (h : InvA b P) (hb : b P.length = false) : InvA b (P ++ [zeroO]) := by
 refine ⟨?_, ?_, ?_, ?_⟩
 · intro j o hj
   rcases Nat.lt_trichotomy j P.length with h1 | h1 | h1
   · rw [List.getElem?_append_left h1] at hj; exact h.full j o hj
   · subst h1; rw [List.getElem?_append_right (Nat.le_refl _), Nat.sub_self] at hj; simp at hj; subst hj; exact hb.symm
   · rw [List.getElem?_eq_none (by simp; omega)] at hj; cases hj
 · intro j o hj hf
   rcases Nat.lt_trichotomy j P.length with h1 | h1 | h1
   · rw [List.getElem?_append_left h1] at hj; exact h.id j o hj hf
   · subst h1; rw [List.getElem?_append_right (Nat.le_refl _), Nat.sub_self] at hj; simp at hj; subst hj; cases hf
   · rw [List.getElem?_eq_none (by simp; omega)] at hj; cases hj
 · intro e he
   rw [allO_app, show allO [zeroO] = [] from rfl, List.append_nil] at he
   rw [List.length_append, List.length_singleton]
   have := h.le e he
   omega
 · rw [allO_app, show allO [zeroO] = [] from rfl, List.append_nil]
   exact h.up
theorem putA {n : Nat} {P : List One} (h : P.length < n) (key id : Int) : putR (P ++ List.replicate (n - P.length) zeroO) (P.length : Int) key id = (0, (P ++ [⟨key, id, true, 1⟩]) ++ List.replicate (n - (P ++ [(⟨key, id, true, 1⟩ : One)]).length) zeroO) := by
 obtain ⟨m, hm⟩ : ∃ m, n - P.length = m + 1 := ⟨n - P.length - 1, by omega⟩
 have hm2 : n - (P ++ [(⟨key, id, true, 1⟩ : One)]).length = m := by rw [List.length_append, List.length_singleton]; omega
 rw [hm2, hm, List.replicate_succ]
 have hs : slotAt (P ++ zeroO :: List.replicate m zeroO) (P.length : Int) = some zeroO := by unfold slotAt; rw [if_pos (by omega)]; simp
 unfold putR
 rw [hs]
 simp [zeroO, IntKind.wrap, IntKind.bits, IntKind.signed]
theorem skipA {n : Nat} {P : List One} (h : P.length < n) : P ++ List.replicate (n - P.length) zeroO = (P ++ [zeroO]) ++ List.replicate (n - (P ++ [zeroO]).length) zeroO := by
 obtain ⟨m, hm⟩ : ∃ m, n - P.length = m + 1 := ⟨n - P.length - 1, by omega⟩
 have hm2 : n - (P ++ [zeroO]).length = m := by rw [List.length_append, List.length_singleton]; omega
 rw [hm2, hm, List.replicate_succ]
 simp
theorem allO_count (L : List One) : (allO L).length = L.countP fun o => o.full := by unfold allO; rw [List.length_map, List.countP_eq_length_filter]
theorem drop_none {L : List One} {id : Int} (h : ∀ o ∈ L, hasO id o = false) : dropR L id = (false, L) := by
 unfold dropR
 rw [if_neg]
 rw [List.findIdx_lt_length]
 rintro ⟨o, ho, hh⟩
 rw [h o ho] at hh
 cases hh
theorem dropA {b : Nat → Bool} {P : List One} (h : InvA b P) (h8 : P.length ≤ 8) {q : Nat} (hq : q < P.length) :
 ∃ P1, dropR P ((q : Int) + 1) = (b q, P1) ∧ dropR P1 ((q : Int) + 1) = (false, P1) ∧ dropR P1 99 = (false, P1) ∧ P1.length = P.length ∧ (getR P1 (q : Int)).full = false ∧ ((allO P1).length : Int) = (allO P).length - (if b q = true then 1 else 0) := by
 have hpq := List.getElem?_eq_getElem hq
 have h99 : ∀ o ∈ P, hasO 99 o = false := by
  intro o ho
  obtain ⟨j, hj⟩ := List.mem_iff_getElem?.1 ho
  have hjl := (List.getElem?_eq_some_iff.1 hj).1
  unfold hasO
  cases hf : o.full with
  | false => rfl
  | true => have := h.id j o hj hf; simp; omega
 have hne : ∀ (j : Nat) (o : One), P[j]? = some o → j ≠ q → hasO ((q : Int) + 1) o = false := by
  intro j o hj hjq
  unfold hasO
  cases hf : o.full with
  | false => rfl
  | true => have := h.id j o hj hf; simp; omega
 cases hb : b q with
 | false =>
  have hfq : (P[q]).full = false := by rw [h.full q _ hpq, hb]
  have hall : ∀ o ∈ P, hasO ((q : Int) + 1) o = false := by
   intro o ho
   obtain ⟨j, hj⟩ := List.mem_iff_getElem?.1 ho
   by_cases hjq : j = q
   · subst hjq; rw [hpq] at hj; injection hj with hj; subst hj; simp [hasO, hfq]
   · exact hne j o hj hjq
  refine ⟨P, drop_none hall, drop_none hall, drop_none h99, rfl, ?_, by simp⟩
  unfold getR slotAt
  rw [if_pos (by omega), Int.toNat_natCast, hpq]
  exact hfq
 | true =>
  have hfq : (P[q]).full = true := by rw [h.full q _ hpq, hb]
  have hid := h.id q _ hpq hfq
  have hfind : P.findIdx (hasO ((q : Int) + 1)) = q := by
   rw [List.findIdx_eq hq]
   refine ⟨by simp [hasO, hfq, hid], fun j hj => hne j _ (List.getElem?_eq_getElem (by omega)) (by omega)⟩
  refine ⟨P.set q ⟨0, 0, false, IntKind.u64.wrap ((P.getD q zeroO).ver + 1)⟩, ?_, ?_, ?_, by simp, ?_, ?_⟩
  · unfold dropR
    rw [hfind, if_pos hq]
  · refine drop_none fun o ho => ?_
    obtain ⟨j, hj⟩ := List.mem_iff_getElem?.1 ho
    rw [List.getElem?_set] at hj
    by_cases hjq : q = j
    · rw [if_pos hjq, if_pos (by omega)] at hj; injection hj with hj; subst hj; rfl
    · rw [if_neg hjq] at hj; exact hne j o hj (fun e => hjq e.symm)
  · refine drop_none fun o ho => ?_
    rcases List.mem_or_eq_of_mem_set ho with h1 | h1
    · exact h99 o h1
    · subst h1; rfl
  · unfold getR slotAt
    rw [if_pos (by omega), Int.toNat_natCast, List.getElem?_set_self hq]
    rfl
  · rw [allO_count, allO_count, List.countP_set hq, hfq]
    have : 0 < P.countP fun o => o.full := List.countP_pos_iff.2 ⟨P[q], List.getElem_mem hq, hfq⟩
    simp
    omega
theorem put_outA {L : List One} {t k i : Int} (h : t < 0 ∨ (L.length : Int) ≤ t) : putR L t k i = (1, L) := by
 unfold putR slotAt
 rcases h with h | h
 · rw [if_neg (by omega)]
 · by_cases h0 : 0 ≤ t
   · rw [if_pos h0, List.getElem?_eq_none (by omega)]
   · rw [if_neg h0]
set_option maxRecDepth 100000 in
set_option maxHeartbeats 2000000 in
theorem slotApart_walk (a x y : Int) (w : World) :
 Calls Try.prog 6 #[.int .i64 a, .int .i64 x, .int .i64 y] w fun e w' => e = .returned (.bool true) ∧ Below w.heap.size w w' := by
 have hm := and_maskS a 7 (by omega)
 rw [show ((7 : Nat) : Int) = 7 from rfl] at hm
 obtain ⟨n, hn⟩ : ∃ n : Nat, bits BinOp.and IntKind.i64 a 7 + 1 = (n : Int) := ⟨(bits BinOp.and IntKind.i64 a 7 + 1).toNat, by omega⟩
 have hnw : wrap64 (bits BinOp.and IntKind.i64 a 7 + 1) = (n : Int) := by rw [← hn]; unfold wrap64; omega
 have hn1 : 1 ≤ n ∧ n ≤ 8 := by omega
 have HN := Aside0.mk hn1
 clear hm hn1 hn
 go_enter Try.func6, Try.ntmps6
 go_wp2_with fail
 refine (slot_new n w HN.out.1 HN.out.2).mono ?_
 rintro e w1 ⟨p, g, hp, hg, rfl, hs1, hb1⟩
 have HS1 := Aside0.mk hs1
 have HB1 := Aside0.mk hb1
 have HG := Aside0.mk (show ∀ k, some g = some k → w.heap.size ≤ k from fun k hk => by injection hk with hk; omega)
 clear hs1 hb1 hp hg
 go_wp2
 go_loopw [9, 10] (fun kk t wr => ∃ (P : List One), P.length ≤ n ∧ kk = .int .i64 ((allO P).length : Nat) ∧ t = .int .i64 (P.length : Nat) ∧ Aside0 (InvA (bitA x) P) ∧ Aside0 (SlotsAt wr p g (P ++ List.replicate (n - P.length) zeroO)) ∧ Aside0 (Below w.heap.size w wr)) (fun _ t _ => n - (intOf t).toNat)
 case atStart => exact ⟨[], Nat.zero_le _, rfl, rfl, ⟨invA_nil _⟩, ⟨HS1.out⟩, HB1⟩
 case round =>
  obtain ⟨P, hP, rfl, rfl, HI, HS, HB⟩ := hrel
  have hn8 := HN.out.2
  have hle := allO_len P
  by_cases hlt : P.length < n
  · cases hb : bitA x P.length with
    | true =>
     have hbit : bits BinOp.and IntKind.i64 (x / 2 ^ P.length) 1 = 1 := by simpa [bitA] using hb
     have HBt := Aside0.mk hb
     clear hb
     go_wp2_with fail
     refine (slot_put p g _ (P.length : Int) _ _ wr HS.out).mono ?_
     rintro e w3 ⟨rfl, hs3, hg3⟩
     rw [putA hlt] at hs3 ⊢
     have HS3 := Aside0.mk hs3
     have HB3 := Aside0.mk (pw_below_grown HB.out _ HB.out.size hg3 HG.out)
     clear hs3 hg3
     go_wp2
     go_roundw
     case rel => exact ⟨P ++ [⟨90 - (P.length : Int), (P.length : Int) + 1, true, 1⟩], by simp; omega, by simp [allO_app, allO], by simp, ⟨invA_put HI.out HBt.out _ _⟩, HS3, HB3⟩
     case measure => simp [intOf]; omega
    | false =>
     have hbm := and_maskS (x / 2 ^ P.length) 1 (by omega)
     rw [show ((1 : Nat) : Int) = 1 from rfl] at hbm
     have hbit : bits BinOp.and IntKind.i64 (x / 2 ^ P.length) 1 = 0 := by
      have : ¬ bits BinOp.and IntKind.i64 (x / 2 ^ P.length) 1 = 1 := by simpa [bitA] using hb
      omega
     have HBt := Aside0.mk hb
     clear hb hbm
     go_wp2
     go_roundw
     case rel => exact ⟨P ++ [zeroO], by simp; omega, by simp [allO_app, allO, zeroO], by simp, ⟨invA_skip HI.out HBt.out⟩, ⟨by rw [← skipA hlt]; exact HS.out⟩, HB⟩
     case measure => simp [intOf]; omega
  · have hPn : P.length = n := by omega
    have HS2 : Aside0 (SlotsAt wr p g P) := ⟨by have := HS.out; rw [hPn, Nat.sub_self, List.replicate_zero, List.append_nil] at this; exact this⟩
    clear HS
    have HPn := Aside0.mk hPn
    clear hPn
    go_wp2_with fail
    refine (slot_all p g P wr HS2.out).mono ?_
    rintro e w3 ⟨v, rfl, hv3, hb3⟩
    obtain ⟨A3, c3, e3⟩ := Kd.V_slice hv3
    subst e3
    have HV3 := Aside0.mk hv3
    have HS3 := Aside0.mk (HS2.out.below hb3)
    have HB3 := Aside0.mk (below_step HB.out hb3)
    clear hv3 hb3
    go_wp2
    have HC3 := Aside0.mk (Kd.V_reads' HV3.out).2.2
    have hcap := (Kd.V_reads' HV3.out).2.1
    have HCap := Aside0.mk hcap
    have hk8 : (allO P).length ≤ 8 := by have := HN.out.2; omega
    clear hcap
    go_loopw [12] (fun i wr => ∃ m : Nat, 1 ≤ m ∧ i = .int .i64 m ∧ m ≤ 9 ∧ Aside0 (Kd.C k33 wr A3 (allO P).length (allO P)) ∧ Aside0 (SlotsAt wr p g P) ∧ Aside0 (Below w.heap.size w wr)) (fun i _ => 9 - (intOf i).toNat)
    case atStart => exact ⟨1, by omega, rfl, by omega, HC3, HS3, HB3⟩
    case round =>
     clear HS3 HB3 HV3 HS2 HB HC3
     obtain ⟨m, hm1, rfl, hm9, HC, HS, HB⟩ := hrel
     by_cases hlt2 : m < (allO P).length
     · obtain ⟨ad, e1, hx0, hx1⟩ := at_T33 HC.out (m : Int) (by omega) (by omega)
       cases e1
       obtain ⟨ad', e1, hy0, hy1⟩ := at_T33 HC.out ((m : Int) - 1) (by omega) (by omega)
       injection e1 with e1
       subst e1
       have hup : decide ((rd_T33 (allO P) (m : Int)).f1 ≤ (rd_T33 (allO P) ((m : Int) - 1)).f1) = false := by
        have h1 : rd_T33 (allO P) (m : Int) = (allO P)[m] := by unfold rd_T33; simp [List.getD_eq_getElem?_getD, List.getElem?_eq_getElem hlt2]
        have h2 : rd_T33 (allO P) ((m : Int) - 1) = (allO P)[m - 1] := by
         unfold rd_T33
         rw [show ((m : Int) - 1).toNat = m - 1 by omega]
         simp [List.getD_eq_getElem?_getD, List.getElem?_eq_getElem (show m - 1 < (allO P).length by omega)]
        rw [h1, h2]
        have := List.pairwise_iff_getElem.1 HI.out.up (m - 1) m (by omega) hlt2 (by omega)
        exact decide_eq_false (by omega)
       generalize (rd_T33 (allO P) (m : Int)).f0 = a0 at *
       generalize (rd_T33 (allO P) (m : Int)).f1 = a1 at *
       generalize (rd_T33 (allO P) ((m : Int) - 1)).f0 = b0 at *
       generalize (rd_T33 (allO P) ((m : Int) - 1)).f1 = b1 at *
       rw [show ((m : Int) - 1).toNat = m - 1 by omega] at hy0 hy1
       rw [Int.toNat_natCast] at hx0 hx1
       go_wp2
       go_quiet (fail)
       go_wp2
       go_roundw
       case rel => exact ⟨m + 1, by omega, by go_num, by omega, ⟨Kd.C_drewN HC.out _⟩, HS, ⟨pw_below_drewN HB.out _⟩⟩
       case measure => simp [intOf]; omega
     · have hy := and_maskS y 255 (by omega)
       rw [show ((255 : Nat) : Int) = 255 from rfl] at hy
       obtain ⟨z, hz⟩ : ∃ z : Int, bits BinOp.and IntKind.i64 y 255 = z := ⟨_, rfl⟩
       rw [hz] at hy
       obtain ⟨hz0, hz1⟩ := hy
       have hn1 := HN.out.1
       obtain ⟨q, hq, hqn⟩ : ∃ q : Nat, z % (n : Int) = (q : Int) ∧ q < n := ⟨(z % (n : Int)).toNat, by have := Int.emod_nonneg z (b := (n : Int)) (by omega); omega, by have := Int.emod_lt_of_pos z (b := (n : Int)) (by omega); omega⟩
       have hq' : z.tmod (n : Int) = (q : Int) := by rw [Int.tmod_eq_emod_of_nonneg hz0]; exact hq
       obtain ⟨P1, d1, d2, d3, d4, d5, d6⟩ := dropA HI.out (by have := HPn.out; omega) (q := q) (by have := HPn.out; omega)
       have D := Aside0.mk (And.intro d1 (And.intro d2 (And.intro d3 (And.intro d4 (And.intro d5 d6)))))
       clear d1 d2 d3 d4 d5 d6
       cases hb : bitA x q with
       | true =>
        have hbit : bits BinOp.and IntKind.i64 (x / 2 ^ q) 1 = 1 := by simpa [bitA] using hb
        rw [hb] at D
        clear hb
        have hle1 : (((allO P1).length : Int) == (((allO P).length : Int) - 1)) = true := by
         have := D.out.2.2.2.2.2
         simp only [if_true] at this
         rw [beq_iff_eq]
         omega
        go_wp2_with fail
        refine (slot_drop p g P ((q : Int) + 1) _ HS.out).mono ?_
        rintro e w4 ⟨rfl, hs, hg⟩
        rw [D.out.1] at hs ⊢
        have HS4 := Aside0.mk hs
        have HB4 := Aside0.mk (pw_below_grown HB.out _ HB.out.size hg HG.out)
        clear hs hg
        go_wp2_with fail
        refine (slot_drop p g P1 ((q : Int) + 1) _ HS4.out).mono ?_
        rintro e w5 ⟨rfl, hs, hg⟩
        rw [D.out.2.1] at hs ⊢
        have HS5 := Aside0.mk hs
        have HB5 := Aside0.mk (pw_below_grown HB4.out _ HB4.out.size hg HG.out)
        clear hs hg
        go_wp2_with fail
        refine (slot_drop p g P1 99 _ HS5.out).mono ?_
        rintro e w6 ⟨rfl, hs, hg⟩
        rw [D.out.2.2.1] at hs ⊢
        have HS6 := Aside0.mk hs
        have HB6 := Aside0.mk (pw_below_grown HB5.out _ HB5.out.size hg HG.out)
        clear hs hg
        go_wp2_with fail
        refine (slot_get p g P1 (q : Int) _ HS6.out).mono ?_
        rintro e w7 ⟨rfl, hb7⟩
        rw [D.out.2.2.2.2.1]
        have hb7' := below_step hb7 ((Below.refl w7.heap.size w7).alloc (Nat.le_refl _) (.cells #[.int .u64 (getR P1 (q : Int)).key, .int .i64 (getR P1 (q : Int)).id] 33))
        have HS7 := Aside0.mk (HS6.out.below hb7')
        have HB7 := Aside0.mk (below_step HB6.out hb7')
        clear hb7 hb7'
        go_wp2_with fail
        refine (slot_all p g P1 _ HS7.out).mono ?_
        rintro e w8 ⟨v8, rfl, hv8, hb8⟩
        obtain ⟨A8, c8, e8⟩ := Kd.V_slice hv8
        subst e8
        have HS8 := Aside0.mk (HS7.out.below hb8)
        have HB8 := Aside0.mk (below_step HB7.out hb8)
        clear hv8 hb8
        go_wp2_with fail
        refine (slot_put p g P1 (n : Int) 0 0 _ HS8.out).mono ?_
        rintro e w9 ⟨rfl, hs9, hg9⟩
        rw [put_outA (.inr (by have := D.out.2.2.2.1; have := HPn.out; omega))] at hs9 ⊢
        have HS9 := Aside0.mk hs9
        have HB9 := Aside0.mk (pw_below_grown HB8.out _ HB8.out.size hg9 HG.out)
        clear hs9 hg9
        go_wp2_with fail
        refine (slot_put p g P1 (-1) 0 0 _ HS9.out).mono ?_
        rintro e wa ⟨rfl, hsa, hga⟩
        rw [put_outA (.inl (by omega))] at hsa ⊢
        have HBa := Aside0.mk (pw_below_grown HB9.out _ HB9.out.size hga HG.out)
        clear hsa hga
        go_wp2_with (first | (go_at_call 17; (refine (slots_awake _).mono ?_); rintro e wb ⟨rfl, hbb⟩; have HBb := Aside0.mk (below_step HBa.out hbb); clear hbb))
        go_ret
        exact ⟨rfl, HBb.out⟩
       | false =>
        have hbm := and_maskS (x / 2 ^ q) 1 (by omega)
        rw [show ((1 : Nat) : Int) = 1 from rfl] at hbm
        have hbit : bits BinOp.and IntKind.i64 (x / 2 ^ q) 1 = 0 := by
         have : ¬ bits BinOp.and IntKind.i64 (x / 2 ^ q) 1 = 1 := by simpa [bitA] using hb
         omega
        clear hbm
        rw [hb] at D
        clear hb
        have hle1 : (((allO P1).length : Int) == ((allO P).length : Int)) = true := by
         have := D.out.2.2.2.2.2
         simp only [Bool.false_eq_true, if_false] at this
         rw [beq_iff_eq]
         omega
        go_wp2_with fail
        refine (slot_drop p g P ((q : Int) + 1) _ HS.out).mono ?_
        rintro e w4 ⟨rfl, hs, hg⟩
        rw [D.out.1] at hs ⊢
        have HS4 := Aside0.mk hs
        have HB4 := Aside0.mk (pw_below_grown HB.out _ HB.out.size hg HG.out)
        clear hs hg
        go_wp2_with fail
        refine (slot_drop p g P1 ((q : Int) + 1) _ HS4.out).mono ?_
        rintro e w5 ⟨rfl, hs, hg⟩
        rw [D.out.2.1] at hs ⊢
        have HS5 := Aside0.mk hs
        have HB5 := Aside0.mk (pw_below_grown HB4.out _ HB4.out.size hg HG.out)
        clear hs hg
        go_wp2_with fail
        refine (slot_drop p g P1 99 _ HS5.out).mono ?_
        rintro e w6 ⟨rfl, hs, hg⟩
        rw [D.out.2.2.1] at hs ⊢
        have HS6 := Aside0.mk hs
        have HB6 := Aside0.mk (pw_below_grown HB5.out _ HB5.out.size hg HG.out)
        clear hs hg
        go_wp2_with fail
        refine (slot_get p g P1 (q : Int) _ HS6.out).mono ?_
        rintro e w7 ⟨rfl, hb7⟩
        rw [D.out.2.2.2.2.1]
        have hb7' := below_step hb7 ((Below.refl w7.heap.size w7).alloc (Nat.le_refl _) (.cells #[.int .u64 (getR P1 (q : Int)).key, .int .i64 (getR P1 (q : Int)).id] 33))
        have HS7 := Aside0.mk (HS6.out.below hb7')
        have HB7 := Aside0.mk (below_step HB6.out hb7')
        clear hb7 hb7'
        go_wp2_with fail
        refine (slot_all p g P1 _ HS7.out).mono ?_
        rintro e w8 ⟨v8, rfl, hv8, hb8⟩
        obtain ⟨A8, c8, e8⟩ := Kd.V_slice hv8
        subst e8
        have HS8 := Aside0.mk (HS7.out.below hb8)
        have HB8 := Aside0.mk (below_step HB7.out hb8)
        clear hv8 hb8
        go_wp2_with fail
        refine (slot_put p g P1 (n : Int) 0 0 _ HS8.out).mono ?_
        rintro e w9 ⟨rfl, hs9, hg9⟩
        rw [put_outA (.inr (by have := D.out.2.2.2.1; have := HPn.out; omega))] at hs9 ⊢
        have HS9 := Aside0.mk hs9
        have HB9 := Aside0.mk (pw_below_grown HB8.out _ HB8.out.size hg9 HG.out)
        clear hs9 hg9
        go_wp2_with fail
        refine (slot_put p g P1 (-1) 0 0 _ HS9.out).mono ?_
        rintro e wa ⟨rfl, hsa, hga⟩
        rw [put_outA (.inl (by omega))] at hsa ⊢
        have HBa := Aside0.mk (pw_below_grown HB9.out _ HB9.out.size hga HG.out)
        clear hsa hga
        go_wp2_with (first | (go_at_call 17; (refine (slots_awake _).mono ?_); rintro e wb ⟨rfl, hbb⟩; have HBb := Aside0.mk (below_step HBa.out hbb); clear hbb))
        go_ret
        exact ⟨rfl, HBb.out⟩
end Go.Proofs.Ytfhapffjnafkbaa.V
end
section
set_option linter.unusedVariables false
set_option linter.unusedSimpArgs false
namespace Go.Proofs.Ytfhapffjnafkbaa.V
open Go.RowKit Go.Proofs.YtfhapffjnafkbaaW.PrintWords Go.Proofs.YtfhapffjnafkbaaW.PrintLast Go.Proofs.YtfhapffjnafkbaaW.PrintMore
def vergerlaw9_SlotApart.f (a0 a1 a2 : Int) : Option Bool := some true
theorem vergerlaw9_SlotApart.calls (a0 a1 a2 : Int) (r : Bool) (w : World) (h : vergerlaw9_SlotApart.f a0 a1 a2 = some r) :
 Calls Try.prog 6 #[.int .i64 a0, .int .i64 a1, .int .i64 a2] w fun e w' => e = .returned (.bool r) ∧ Below w.heap.size w w' := by
 obtain rfl := Option.some.inj h
 exact slotApart_walk a0 a1 a2 w
theorem SlotApart_pure (a0 a1 a2 : Int) {P Q R : Prop} (_ : P) (_ : Q) (_ : R) : vergerlaw9_SlotApart.f a0 a1 a2 = some true := rfl
end Go.Proofs.Ytfhapffjnafkbaa.V
end
