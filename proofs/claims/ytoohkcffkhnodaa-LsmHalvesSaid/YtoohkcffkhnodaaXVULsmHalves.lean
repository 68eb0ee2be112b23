-- a text of this work, without what this claim doesn't use (wip/shake.py)
import Derived.Test.YtoohkcffkhnodaaXVLsmD
import Derived.Test.YtoohkcffkhnodaaXVPentry
import Derived.Test.YtoohkcffkhnodaaXVL6
import Derived.Test.YtoohkcffkhnodaaXVLsm16
import Derived.Test.YtoohkcffkhnodaaXVLsm5
import Derived.Deep.DeepCutAuto
import Derived.Deep.CutBlock
import Derived.BigQuiet
import Derived.Deep.QuietTactic
import Derived.IntWalk
import Derived.Test.YtoohkcffkhnodaaXWWords
import Derived.SizedLaws
import Derived.ChangeSlices
import Derived.WalkKit
import Derived.ProofKit
import Derived.OpenShut
import Derived.ShutString
import Derived.ChangeOld
import Derived.Below
import Derived.Deep.Slices
section
set_option linter.unusedVariables false
set_option linter.unusedSimpArgs false
namespace Go.Proofs.Ytoohkcffkhnodaa.V
open Go.RowKit Go.Proofs.YtoohkcffkhnodaaW.PrintWords Go.Proofs.YtoohkcffkhnodaaW.PrintLast Go.Proofs.YtoohkcffkhnodaaW.PrintMore
def entH (i : Nat) : E := ⟨((i : Int) + 1) * 53 % 127, (i : Int) + 1⟩
def leftH (o k n : Nat) : List E := ((List.range n).filter fun i => decide (¬ (i < k ∧ (i + 1) % 2 = o))).map entH
def allH (n : Nat) : List E := (List.range n).map entH
def cntH (o k : Nat) : Nat := ((List.range k).filter fun i => decide (¬ (i + 1) % 2 = o)).length
theorem allH_succ (n : Nat) : allH (n + 1) = allH n ++ [entH n] := by simp [allH, List.range_succ]
theorem allH_len (n : Nat) : (allH n).length = n := by simp [allH]
theorem leftH_zero (o n : Nat) : leftH o 0 n = allH n := by
 unfold leftH allH
 congr 1
 exact List.filter_eq_self.2 (fun i _ => by simp)
theorem leftH_len (o k n : Nat) : (leftH o k n).length ≤ n := by
 unfold leftH
 rw [List.length_map]
 exact Nat.le_trans (List.length_filter_le _ _) (by simp)
theorem leftH_unlike (o k n : Nat) : Unlike (leftH o k n) := by
 unfold Unlike leftH
 rw [List.map_map]
 unfold List.Nodup
 rw [List.pairwise_map]
 refine (List.nodup_range.sublist List.filter_sublist).imp ?_
 intro a b h
 show (a : Int) + 1 ≠ (b : Int) + 1
 omega
theorem leftH_no {o k n : Nat} (h : ¬ (k + 1) % 2 = o) : leftH o (k + 1) n = leftH o k n := by
 unfold leftH
 congr 1
 refine List.filter_congr fun i _ => ?_
 rw [decide_eq_decide]
 by_cases hi : i = k
 · subst hi; simp [h]
 · exact not_congr (and_congr_left fun _ => by omega)
theorem leftH_out {o k n : Nat} (h : (k + 1) % 2 = o) : ((leftH o k n).filter fun e => decide (e.f1 ≠ (k : Int) + 1)) = leftH o (k + 1) n := by
 unfold leftH
 rw [List.filter_map, List.filter_filter]
 congr 1
 refine List.filter_congr fun i _ => ?_
 rw [Bool.eq_iff_iff, Bool.and_eq_true, decide_eq_true_iff, decide_eq_true_iff]
 show decide ((i : Int) + 1 ≠ (k : Int) + 1) = true ∧ _ ↔ _
 rw [decide_eq_true_iff]
 by_cases hi : i = k
 · subst hi; simp [h]
 · constructor
   · rintro ⟨_, h2⟩ ⟨h3, h4⟩; exact h2 ⟨by omega, h4⟩
   · intro h2; exact ⟨by omega, fun ⟨h3, h4⟩ => h2 ⟨by omega, h4⟩⟩
theorem leftH_has {o k n : Nat} (hk : k < n) : ((leftH o k n).any fun e => decide (e.f1 = (k : Int) + 1)) = true := by
 rw [List.any_eq_true]
 exact ⟨entH k, List.mem_map.2 ⟨k, List.mem_filter.2 ⟨List.mem_range.2 hk, by simp⟩, rfl⟩, by simp [entH]⟩
theorem leftH_gone {o k n : Nat} (h : (k + 1) % 2 = o) : ((leftH o (k + 1) n).any fun e => decide (e.f1 = (k : Int) + 1)) = false ∧ ((leftH o (k + 1) n).filter fun e => decide (e.f1 ≠ (k : Int) + 1)) = leftH o (k + 1) n := by
 have hn : ∀ e ∈ leftH o (k + 1) n, e.f1 ≠ (k : Int) + 1 := by
  intro e he h2
  obtain ⟨i, hi, rfl⟩ := List.mem_map.1 he
  have h3 := (List.mem_filter.1 hi).2
  have h4 : i = k := by simp [entH] at h2; omega
  subst h4
  simp [h] at h3
 exact ⟨by rw [List.any_eq_false]; simpa using hn, filter_id hn⟩
theorem cntH_no {o k : Nat} (h : ¬ (k + 1) % 2 = o) : cntH o (k + 1) = cntH o k + 1 := by simp [cntH, List.range_succ, h]
theorem cntH_yes {o k : Nat} (h : (k + 1) % 2 = o) : cntH o (k + 1) = cntH o k := by simp [cntH, List.range_succ, h]
theorem cntH_le (o k : Nat) : cntH o k ≤ k := by
 unfold cntH
 exact Nat.le_trans (List.length_filter_le _ _) (by simp)
theorem leftH_cnt (o n : Nat) : (leftH o n n).length = cntH o n := by
 unfold leftH cntH
 rw [List.length_map]
 congr 1
 refine List.filter_congr fun i hi => ?_
 have := List.mem_range.1 hi
 rw [decide_eq_decide]
 exact not_congr ⟨fun h => h.2, fun h => ⟨this, h⟩⟩
theorem leftH_mem {o n : Nat} {e : E} (h : e ∈ sortE (leftH o n n)) : ∃ i, i < n ∧ e = entH i ∧ ¬ (i + 1) % 2 = o := by
 rw [sortE_mem] at h
 obtain ⟨i, hi, rfl⟩ := List.mem_map.1 h
 obtain ⟨h1, h2⟩ := List.mem_filter.1 hi
 have h3 := List.mem_range.1 h1
 rw [decide_eq_true_iff] at h2
 exact ⟨i, h3, rfl, fun h4 => h2 ⟨h3, h4⟩⟩
theorem drop_okr {w0 wr : World} {p : Nat} {v : Value} {bs : List Bk} {ls : List Int} {es fs : List E} {r : Bool} (h : LOk w0 wr p v bs ls es) (id : Int) (hu : Unlike es) (hl : es.length ≤ 1000) (hr : (es.any fun e => decide (e.f1 = id)) = r) (hf : (es.filter fun e => decide (e.f1 ≠ id)) = fs) :
 Calls Try.prog 19 #[.pointer (some ⟨p, 0, none⟩), .int .i64 id] wr fun x w2 => x = .returned (.bool r) ∧ ∃ v2 bs2, LOk w0 w2 p v2 bs2 (lvls bs2) fs := by
 subst hr; subst hf; exact drop_ok h id hu hl
theorem check_ok {w0 wr : World} {p : Nat} {v : Value} {bs : List Bk} {ls : List Int} {es : List E} (h : LOk w0 wr p v bs ls es) (hl : es.length ≤ 1000) :
 Calls Try.prog 12 #[.pointer (some ⟨p, 0, none⟩)] wr fun x w2 => x = .returned (.int .i64 0) ∧ Below wr.heap.size wr w2 := by
 have h1 := (h.few hl).1
 have h2 := h.cnt
 exact lsm_check w0.heap.size p v bs wr h.hat h.good (by omega) (by omega)
set_option maxRecDepth 100000 in
set_option maxHeartbeats 8000000 in
theorem lsmHalves_walk (x y : Int) (w : World) :
 Calls Try.prog 6 #[.int .i64 x, .int .i64 y] w fun e w' => e = .returned (.bool true) ∧ Below w.heap.size w w' := by
 have hx := and_maskL x 255 (by omega)
 rw [show ((255 : Nat) : Int) = 255 from rfl] at hx
 obtain ⟨z, hz⟩ : ∃ z : Int, bits BinOp.and IntKind.i64 x 255 = z := ⟨_, rfl⟩
 rw [hz] at hx
 obtain ⟨hz0, hz1⟩ := hx
 obtain ⟨n, hn, hn2⟩ : ∃ n : Nat, z.tmod 120 = (n : Int) ∧ n < 120 := ⟨(z.tmod 120).toNat, by rw [Int.tmod_eq_emod_of_nonneg hz0]; have := Int.emod_nonneg z (b := 120) (by omega); omega, by rw [Int.tmod_eq_emod_of_nonneg hz0]; have := Int.emod_lt_of_pos z (b := 120) (by omega); omega⟩
 have hn3 : z % 120 = (n : Int) := by rw [← Int.tmod_eq_emod_of_nonneg hz0]; exact hn
 have hy := and_maskL y 1 (by omega)
 rw [show ((1 : Nat) : Int) = 1 from rfl] at hy
 obtain ⟨o, ho⟩ : ∃ o : Nat, bits BinOp.and IntKind.i64 y 1 = (o : Int) := ⟨(bits BinOp.and IntKind.i64 y 1).toNat, by omega⟩
 clear hy
 go_enter Try.func6, Try.ntmps6
 go_wp2_with fail
 refine (new_ok w).mono ?_
 rintro q w1 ⟨rfl, hk1⟩
 have HK1 := Aside0.mk hk1
 clear hk1
 go_wp2_with fail
 clear hz hn hn3
 go_loopw [6] (fun i wr => ∃ (m : Nat) (v : Value) (bs : List Bk) (es : List E), i = .int .i64 ((m : Int) + 1) ∧ m ≤ n ∧ Aside0 (es = (allH m).reverse) ∧ Aside0 (LOk w wr w.heap.size v bs (lvls bs) es)) (fun i _ => n + 1 - (intOf i).toNat)
 case atStart => exact ⟨0, _, _, [], rfl, Nat.zero_le _, ⟨rfl⟩, HK1⟩
 case round =>
  clear HK1
  obtain ⟨m, v, bs, es, rfl, hm, HES, HK⟩ := hrel
  have HEL := Aside0.mk (show es.length ≤ 1000 by rw [HES.out, List.length_reverse, allH_len]; omega)
  by_cases hlt : m < n
  · go_wp2_with fail
    refine (put_okA HK.out (⟨_, _⟩ : E) HEL.out).mono ?_
    rintro q w2 ⟨rfl, v2, bs2, hk2⟩
    have HK2 := Aside0.mk hk2
    clear hk2
    go_wp2
    go_roundw
    case rel => exact ⟨m + 1, v2, bs2, _, by go_num, by omega, ⟨by rw [allH_succ, List.reverse_append, HES.out]; rfl⟩, HK2⟩
    case measure => simp [intOf]; omega
  · obtain rfl : m = n := by omega
    clear hm hlt
    have HK0 := Aside0.mk (HK.out.perm (show es.Perm (leftH o 0 m) by rw [HES.out, leftH_zero]; exact List.reverse_perm _))
    clear HK HES HEL
    go_wp2_with fail
    go_loopw [7, 8] (fun c i wr => ∃ (k : Nat) (v : Value) (bs : List Bk) (es : List E), c = .int .i64 (cntH o k) ∧ i = .int .i64 ((k : Int) + 1) ∧ k ≤ m ∧ Aside0 (es = leftH o k m) ∧ Aside0 (LOk w wr w.heap.size v bs (lvls bs) es)) (fun _ i _ => m + 1 - (intOf i).toNat)
    case atStart => exact ⟨0, _, _, _, rfl, rfl, Nat.zero_le _, ⟨rfl⟩, HK0⟩
    case round =>
     clear HK0
     obtain ⟨k, v, bs, es, rfl, rfl, hk, HES, HK⟩ := hrel
     have HEL := Aside0.mk (show es.length ≤ 1000 by rw [HES.out]; have := leftH_len o k m; omega)
     have hcl := cntH_le o k
     by_cases hlt : k < m
     · obtain ⟨r, hr⟩ : ∃ r : Nat, (k + 1) % 2 = r := ⟨_, rfl⟩
       have e36 : bits BinOp.and IntKind.i64 ((k : Int) + 1) 1 = (r : Int) := by
        have := and_one (k + 1) (by omega)
        rw [hr] at this
        rw [← this]; push_cast; rfl
       by_cases hro : r = o
       · subst hro
         have HNX := Aside0.mk (leftH_gone (n := m) hr)
         have HDO := Aside0.mk (show es.filter (fun e => decide (e.f1 ≠ (k : Int) + 1)) = leftH r (k + 1) m by rw [HES.out]; exact leftH_out hr)
         have HAN := Aside0.mk (show (es.any fun e => decide (e.f1 = (k : Int) + 1)) = true by rw [HES.out]; exact leftH_has hlt)
         have HUN := Aside0.mk (show Unlike es by rw [HES.out]; exact leftH_unlike _ _ _)
         have HU2 := Aside0.mk (leftH_unlike r (k + 1) m)
         have HE2 := Aside0.mk (show (leftH r (k + 1) m).length ≤ 1000 by have := leftH_len r (k + 1) m; omega)
         have HCY := Aside0.mk (cntH_yes hr)
         clear hr
         go_wp2_with fail
         refine (drop_okr HK.out _ HUN.out HEL.out HAN.out HDO.out).mono ?_
         rintro q w2 ⟨rfl, v2, bs2, hk2⟩
         have HK2 := Aside0.mk hk2
         clear hk2
         go_wp2_with fail
         refine (drop_okr HK2.out _ HU2.out HE2.out HNX.out.1 HNX.out.2).mono ?_
         rintro q w3 ⟨rfl, v3, bs3, hk3⟩
         have HK3 := Aside0.mk hk3
         clear hk3
         go_wp2_with fail
         refine (check_ok HK3.out HE2.out).mono ?_
         rintro q w4 ⟨rfl, hb4⟩
         have HK4 := Aside0.mk (HK3.out.below hb4)
         clear hb4
         go_wp2
         go_roundw
         case rel => exact ⟨k + 1, v3, bs3, _, by rw [HCY.out], by go_num, by omega, ⟨rfl⟩, HK4⟩
         case measure => simp [intOf]; omega
       · have hq1 : ¬ (r : Int) = (o : Int) := by omega
         have hq2 : decide ((r : Int) = (o : Int)) = false := decide_eq_false hq1
         have hq3 : ((r : Int) == (o : Int)) = false := by rw [beq_eq_false_iff_ne]; omega
         have HNX := Aside0.mk (show es = leftH o (k + 1) m by rw [HES.out, leftH_no (by omega)])
         have HCY := Aside0.mk (show cntH o (k + 1) = cntH o k + 1 from cntH_no (by omega))
         clear hr
         go_wp2_with fail
         refine (check_ok HK.out HEL.out).mono ?_
         rintro q w4 ⟨rfl, hb4⟩
         have HK4 := Aside0.mk (HK.out.below hb4)
         clear hb4
         go_wp2
         go_roundw
         case rel => exact ⟨k + 1, v, bs, es, by rw [HCY.out]; push_cast; rfl, by go_num, by omega, HNX, HK4⟩
         case measure => simp [intOf]; omega
     · obtain rfl : k = m := by omega
       clear hlt hk
       subst_vars
       have HL := Aside0.mk (show (sortE es).length = cntH o k ∧ (sortE es).length ≤ 1000 by rw [sortE_length, HES.out, leftH_cnt]; omega)
       have HM := Aside0.mk (fun (e : E) (he : e ∈ sortE es) => leftH_mem (by rw [HES.out] at he; exact he))
       have HFW := Aside0.mk (show bs.length ≤ 18 ∧ (allB bs).length ≤ 1000 from ⟨(HK.out.few HEL.out).1, by rw [HK.out.cnt]; exact HEL.out⟩)
       go_wp2_with fail
       refine (lsm_all w.heap.size w.heap.size v bs _ HK.out.hat HK.out.good.snd (by have := HFW.out; omega) (by have := HFW.out; omega)).mono ?_
       rintro q w3 ⟨va, rfl, hva, hb3⟩
       rw [sortE_of_perm HK.out.all] at hva
       have HB3 := Aside0.mk (HK.out.below hb3).bel
       clear hb3 HK HES HEL HFW
       obtain ⟨l, hl⟩ : ∃ l, l = sortE es := ⟨_, rfl⟩
       rw [← hl] at hva HL HM
       clear hl
       obtain ⟨Aa, ca, rfl⟩ := Kd.V_slice hva
       have HVA := Aside0.mk (Kd.V_reads' hva)
       have hl0 := HL.out.1
       clear hva
       go_wp2_with fail
       go_loopw [10] (fun i wr => ∃ q : Nat, i = .int .i64 q ∧ q ≤ l.length ∧ Aside0 (Kd.C k28 wr Aa l.length l) ∧ Aside0 (Below w.heap.size w wr)) (fun i _ => l.length - (intOf i).toNat)
       case atStart => exact ⟨0, rfl, Nat.zero_le _, ⟨HVA.out.2.2⟩, HB3⟩
       case round =>
        clear HVA HB3
        obtain ⟨q, rfl, hq, HC, HB⟩ := hrel
        have hl1 := HL.out.2
        by_cases hlt : q < l.length
        · obtain ⟨ad, e1, y0, y1⟩ := at_T28 HC.out (q : Int) (by omega) (by omega)
          subst e1
          obtain ⟨e, he⟩ : ∃ e, l[q]? = some e := ⟨_, List.getElem?_eq_getElem hlt⟩
          obtain ⟨i, hi, e2, hio⟩ := HM.out e (List.mem_of_getElem? he)
          rw [show rd_T28 l (q : Int) = e by unfold rd_T28; rw [Int.toNat_natCast, List.getD_eq_getElem?_getD, he]; rfl, Int.toNat_natCast, e2] at y0 y1
          simp only [entH] at y0 y1
          obtain ⟨r, hr⟩ : ∃ r : Nat, (i + 1) % 2 = r := ⟨_, rfl⟩
          have e36 : bits BinOp.and IntKind.i64 ((i : Int) + 1) 1 = (r : Int) := by
           have := and_one (i + 1) (by omega)
           rw [hr] at this
           rw [← this]; push_cast; rfl
          have hq1 : ¬ (r : Int) = (o : Int) := by omega
          have hq2 : decide ((r : Int) = (o : Int)) = false := decide_eq_false hq1
          have hq3 : ((r : Int) == (o : Int)) = false := by rw [beq_eq_false_iff_ne]; omega
          have s1 : IntKind.i64.wrap (((i : Int) + 1) * 53) = ((i : Int) + 1) * 53 := IntWalk.i64_in _ (by omega)
          have s2 : (((i : Int) + 1) * 53).tmod 127 = ((i : Int) + 1) * 53 % 127 := Int.tmod_eq_emod_of_nonneg (by omega)
          have s3 : IntKind.i64.wrap (((i : Int) + 1) * 53 % 127) = ((i : Int) + 1) * 53 % 127 := IntWalk.i64_in _ (by omega)
          have s4 : IntKind.u64.wrap (((i : Int) + 1) * 53 % 127) = ((i : Int) + 1) * 53 % 127 := IntWalk.u64_in _ (by omega)
          have hq4 : (q : Int) < (l.length : Int) := by omega
          clear hr hio e2
          go_wp2
          go_quiet (fail)
          go_wp2
          go_roundw
          case rel => exact ⟨q + 1, by go_num, by omega, ⟨Kd.C_drewN HC.out _⟩, ⟨pw_below_drewN HB.out _⟩⟩
          case measure => simp [intOf]; omega
        · obtain rfl : q = l.length := by omega
          go_wp2_with fail
          refine (awake7 _).mono ?_
          rintro y w7 ⟨rfl, hb7⟩
          have HB7 := Aside0.mk (below_then HB.out HB.out.size hb7)
          clear hb7
          go_wp2
          go_ret
          exact ⟨rfl, HB7.out⟩
end Go.Proofs.Ytoohkcffkhnodaa.V
end
section
set_option linter.unusedVariables false
set_option linter.unusedSimpArgs false
namespace Go.Proofs.Ytoohkcffkhnodaa.V
open Go.RowKit Go.Proofs.YtoohkcffkhnodaaW.PrintWords Go.Proofs.YtoohkcffkhnodaaW.PrintLast Go.Proofs.YtoohkcffkhnodaaW.PrintMore
def vergerlaw7_LsmHalves.f (a0 a1 : Int) : Option Bool := some true
theorem vergerlaw7_LsmHalves.calls (a0 a1 : Int) (r : Bool) (w : World) (h : vergerlaw7_LsmHalves.f a0 a1 = some r) :
 Calls Try.prog 6 #[.int .i64 a0, .int .i64 a1] w fun e w' => e = .returned (.bool r) ∧ Below w.heap.size w w' := by
 obtain rfl := Option.some.inj h
 exact lsmHalves_walk a0 a1 w
theorem LsmHalves_pure (a0 a1 : Int) {P Q : Prop} (_ : P) (_ : Q) : vergerlaw7_LsmHalves.f a0 a1 = some true := rfl
end Go.Proofs.Ytoohkcffkhnodaa.V
end
