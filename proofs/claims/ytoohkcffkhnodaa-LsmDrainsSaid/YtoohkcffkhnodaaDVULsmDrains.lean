-- a text of this work, without what this claim doesn't use (wip/shake.py)
import Derived.Test.YtoohkcffkhnodaaDVLsm4
import Derived.BigQuiet
import Derived.Deep.QuietTactic
import Derived.Test.YtoohkcffkhnodaaDVXClone
import Derived.Deep.DeepCutAuto
import Derived.Deep.CutBlock
import Derived.Test.YtoohkcffkhnodaaDWWords
import Derived.SizedLaws
import Derived.ChangeSlices
import Derived.WalkKit
import Derived.ProofKit
import Derived.OpenShut
import Derived.ShutString
import Derived.ChangeOld
import Derived.Below
import Derived.Deep.Slices
section
set_option linter.unusedVariables false
set_option linter.unusedSimpArgs false
namespace Go.Proofs.Ytoohkcffkhnodaa.V
open Go.RowKit Go.Proofs.YtoohkcffkhnodaaW.PrintWords Go.Proofs.YtoohkcffkhnodaaW.PrintLast Go.Proofs.YtoohkcffkhnodaaW.PrintMore
structure LOk (w0 wr : World) (p : Nat) (v : Value) (bs : List Bk) (ls : List Int) (es : List E) : Prop where
  hat : LsmAt wr w0.heap.size p v bs
  good : Good bs
  lv : lvls bs = ls
  all : (allB bs).Perm es
  bel : Below w0.heap.size w0 wr
namespace LOk
variable {w0 wr w2 : World} {p : Nat} {v : Value} {bs : List Bk} {ls : List Int} {es : List E}
theorem len (h : LOk w0 wr p v bs ls es) : bs.length = ls.length := by rw [← h.lv]; simp [lvls]
theorem cnt (h : LOk w0 wr p v bs ls es) : (allB bs).length = es.length := h.all.length_eq
theorem below (h : LOk w0 wr p v bs ls es) (hb : Below wr.heap.size wr w2) : LOk w0 w2 p v bs ls es := ⟨h.hat.below hb, h.good, h.lv, h.all, below_step h.bel hb⟩
theorem drewN (h : LOk w0 wr p v bs ls es) (m : Nat) : LOk w0 (wr.drewN m) p v bs ls es := h.below (pw_below_drewN (Below.refl _ _) m)
theorem turn (h : LOk w0 wr p v bs ls es) {v2 : Value} (ht : Turn wr w2 p v v2) : Below w0.heap.size w0 w2 := ht.below h.bel h.hat.lo (Nat.le_of_lt (Nat.lt_of_le_of_lt h.hat.lo h.hat.lt)) (fun k hk => (h.hat.own k hk).1)
end LOk
theorem put_ok {w0 wr : World} {p : Nat} {v : Value} {bs : List Bk} {ls : List Int} {es : List E} (h : LOk w0 wr p v bs ls es) (e : E) (hl : es.length ≤ 1000) (hn : ls.length ≤ 18) :
 Calls Try.prog 9 #[.pointer (some ⟨p, 0, none⟩), .agg #[.int .u64 e.f0, .int .i64 e.f1]] wr fun x w2 => x = .returned (.tuple #[]) ∧ ∃ v2 bs2, LOk w0 w2 p v2 bs2 (lvIns 0 ls) (e :: es) := by
 have h1 := h.len
 have h2 := h.cnt
 refine (lsm_put w0.heap.size p v bs e wr h.hat h.good (by omega) (by omega)).mono ?_
 rintro x w2 ⟨rfl, v2, hl2, ht⟩
 exact ⟨rfl, v2, putL e bs, hl2, good_put h.good e (by omega), by rw [put_lvls h.good e (by omega), h.lv], (put_all bs e).trans (h.all.cons e), h.turn ht⟩
theorem new_ok (w0 : World) : Calls Try.prog 8 #[] w0 fun x w2 => x = .returned (.pointer (some ⟨w0.heap.size, 0, none⟩)) ∧ LOk w0 w2 w0.heap.size (.slice none 0 0) [] [] [] := by
 refine (lsm_new w0).mono ?_
 rintro x w2 ⟨rfl, h1, h2⟩
 exact ⟨rfl, h1, good_nil, rfl, by rw [allB_nil], h2⟩
theorem sorted3 : SortedE ([⟨6, 3⟩, ⟨7, 2⟩, ⟨8, 1⟩] : List E) := by
 simp [SortedE, leE, ltE]
set_option maxRecDepth 100000 in
set_option maxHeartbeats 4000000 in
theorem awake7 (w : World) : Calls Try.prog 13 #[] w fun e w' => e = .returned (.bool true) ∧ Below w.heap.size w w' := by
 go_enter Try.func13, Try.ntmps13
 go_wp2_with fail
 refine (new_ok w).mono ?_
 rintro x w1 ⟨rfl, hk1⟩
 have HK1 := Aside0.mk hk1
 clear hk1
 go_wp2_with fail
 go_loopw [2] (fun i wr => ∃ (j : Int) (v : Value) (bs : List Bk), i = .int .i64 j ∧ ((j = 1 ∧ Aside0 (LOk w wr w.heap.size v bs [] [])) ∨ (j = 2 ∧ Aside0 (LOk w wr w.heap.size v bs (lvN 1) [⟨8, 1⟩])) ∨ (j = 3 ∧ Aside0 (LOk w wr w.heap.size v bs (lvN 2) [⟨7, 2⟩, ⟨8, 1⟩])) ∨ (j = 4 ∧ Aside0 (LOk w wr w.heap.size v bs (lvN 3) [⟨6, 3⟩, ⟨7, 2⟩, ⟨8, 1⟩])))) (fun i _ => (5 - intOf i).toNat)
 case atStart => exact ⟨1, _, _, rfl, .inl ⟨rfl, HK1⟩⟩
 case round =>
  obtain ⟨j, v, bs, rfl, hj⟩ := hrel
  rcases hj with ⟨rfl, HK⟩ | ⟨rfl, HK⟩ | ⟨rfl, HK⟩ | ⟨rfl, HK⟩
  · go_wp2_with fail
    refine (put_ok HK.out ⟨8, 1⟩ (by simp) (by simp)).mono ?_
    rintro x w2 ⟨rfl, v2, bs2, hk2⟩
    have HK2 := Aside0.mk hk2
    clear hk2
    go_wp2
    go_roundw
    case rel => exact ⟨2, v2, bs2, rfl, .inr (.inl ⟨rfl, HK2⟩)⟩
    case measure => simp [intOf]
  · go_wp2_with fail
    refine (put_ok HK.out ⟨7, 2⟩ (by simp) (by decide)).mono ?_
    rintro x w2 ⟨rfl, v2, bs2, hk2⟩
    have HK2 := Aside0.mk hk2
    clear hk2
    go_wp2
    go_roundw
    case rel => exact ⟨3, v2, bs2, rfl, .inr (.inr (.inl ⟨rfl, HK2⟩))⟩
    case measure => simp [intOf]
  · go_wp2_with fail
    refine (put_ok HK.out ⟨6, 3⟩ (by simp) (by decide)).mono ?_
    rintro x w2 ⟨rfl, v2, bs2, hk2⟩
    have HK2 := Aside0.mk hk2
    clear hk2
    go_wp2
    go_roundw
    case rel => exact ⟨4, v2, bs2, rfl, .inr (.inr (.inr ⟨rfl, HK2⟩))⟩
    case measure => simp [intOf]
  · have hlen := HK.out.len
    have hcnt := HK.out.cnt
    have hl3 : lvN 3 = [1, 0] := by decide
    have hlv := HK.out.lv
    rw [hl3] at hlv hlen
    have HLV := Aside0.mk hlv
    have HLEN := Aside0.mk (show bs.length ≤ 100 ∧ (allB bs).length ≤ 1000000 by simp at hlen hcnt; omega)
    have HCNT := Aside0.mk (show (allB bs).length = 3 from hcnt)
    have hso : sortE (allB bs) = [⟨6, 3⟩, ⟨7, 2⟩, ⟨8, 1⟩] := by rw [sortE_of_perm HK.out.all]; exact sortE_of_sorted sorted3
    have HSO := Aside0.mk hso
    clear hlen hcnt hlv hl3 hso
    go_wp2_with fail
    refine (lsm_min w.heap.size w.heap.size v bs _ HK.out.hat HLEN.out.1 HLEN.out.2).mono ?_
    rintro x w3 ⟨rfl, hb3⟩
    rw [HSO.out]
    rw [show minV ([⟨6, 3⟩, ⟨7, 2⟩, ⟨8, 1⟩] : List E) = (.agg #[.int .u64 6, .int .i64 3], true) from rfl]
    have HK3 := Aside0.mk (HK.out.below (below_step hb3 (below_alloc (Below.refl _ _) (.cells #[.int .u64 6, .int .i64 3] 28))))
    have HX := Aside0.mk (heap_alloc_new w3 (.cells #[.int .u64 6, .int .i64 3] 28))
    have HB3 := Aside0.mk (below_step HK.out.bel hb3)
    clear hb3
    go_wp2_with fail
    refine (lsm_levels w.heap.size w.heap.size v bs _ HK3.out.hat HLEN.out.1).mono ?_
    rintro x w4 ⟨v4, rfl, hv4, hb4⟩
    rw [show (bs.map fun b => b.f0) = [1, 0] from HLV.out] at hv4
    obtain ⟨A4, c4, rfl⟩ := Kd.V_slice hv4
    have hr4 := Kd.V_reads' hv4
    have hb5 := (hb4.block _ (by simp : w3.heap.size < _)).trans HX.out
    have x0 : w4.cell? ⟨w3.heap.size, 0, none⟩ = some (.int .u64 6) := by simp [World.cell?, hb5]
    have HK4 := Aside0.mk (HK3.out.below hb4)
    obtain ⟨ad, rfl⟩ : ∃ ad, A4 = some ad := by
     obtain ⟨ad, e, _⟩ := hr4.2.2.2.2 (by simp)
     exact ⟨ad, e⟩
    have y0 := Kd.foot_int hr4.2.2 0 (by omega) (by simp)
    have y1 := Kd.foot_int hr4.2.2 1 (by omega) (by simp)
    simp only [show Int.toNat 0 = 0 from rfl, show Int.toNat 1 = 1 from rfl, Addr.add_zero', show rd [1, 0] 0 = 1 from rfl, show rd [1, 0] 1 = 0 from rfl] at y0 y1
    have y2 : w4.cell? ⟨(ad.add 0).block, (ad.add 0).off + 1, none⟩ = some (.int .i64 0) := by rw [← add_field _ _ 1 (by omega)]; exact y1
    simp only [Addr.add_zero'] at y2
    clear hv4 hb4 hb5 hr4
    go_wp2_with fail
    refine (lsm_check w.heap.size w.heap.size v bs _ HK4.out.hat HK4.out.good HLEN.out.1 HLEN.out.2).mono ?_
    rintro x w5 ⟨rfl, hb5⟩
    have HK5 := Aside0.mk (HK4.out.below hb5)
    clear hb5 x0 y0 y1 y2
    go_wp2_with fail
    refine (lsm_len w.heap.size w.heap.size v bs _ HK5.out.hat HLEN.out.1 HLEN.out.2).mono ?_
    rintro x w6 ⟨rfl, hb6⟩
    rw [HCNT.out]
    have HK6 := Aside0.mk (HK5.out.below hb6)
    clear hb6
    go_wp2
    go_ret
    exact ⟨by first | rfl | simp, HK6.out.bel⟩
end Go.Proofs.Ytoohkcffkhnodaa.V
end
section
set_option linter.unusedVariables false
set_option linter.unusedSimpArgs false
namespace Go.Proofs.Ytoohkcffkhnodaa.V
open Go.RowKit Go.Proofs.YtoohkcffkhnodaaW.PrintWords Go.Proofs.YtoohkcffkhnodaaW.PrintLast Go.Proofs.YtoohkcffkhnodaaW.PrintMore
theorem and_maskL (x : Int) (m : Nat) (hm : m < 4611686018427387904) : 0 ≤ Go.bits .and .i64 x (m : Int) ∧ Go.bits .and .i64 x (m : Int) ≤ (m : Int) := by
 have h2 : (BitVec.ofInt 64 (m : Int)).toNat = m := by
  rw [BitVec.ofInt_natCast, BitVec.toNat_ofNat]; exact Nat.mod_eq_of_lt (by omega)
 have h3 : ((BitVec.ofInt 64 x) &&& (BitVec.ofInt 64 (m : Int))).toNat ≤ m := by
  rw [BitVec.toNat_and, h2]
  exact Nat.and_le_right
 show 0 ≤ IntKind.i64.wrap ((BitVec.ofInt 64 x &&& BitVec.ofInt 64 (m : Int)).toNat : Int) ∧ IntKind.i64.wrap ((BitVec.ofInt 64 x &&& BitVec.ofInt 64 (m : Int)).toNat : Int) ≤ _
 rw [i64_w]
 unfold wrap64
 omega
theorem lvN_len : ∀ n, n < 200 → (lvN n).length ≤ 8 := by
 have h : (List.range 200).all (fun n => decide ((lvN n).length ≤ 8)) = true := by kernel_rfl
 intro n hn
 have := List.all_eq_true.1 h n (List.mem_range.2 hn)
 simpa using this
end Go.Proofs.Ytoohkcffkhnodaa.V
end
section
set_option linter.unusedVariables false
set_option linter.unusedSimpArgs false
namespace Go.Proofs.Ytoohkcffkhnodaa.V
open Go.RowKit Go.Proofs.YtoohkcffkhnodaaW.PrintWords Go.Proofs.YtoohkcffkhnodaaW.PrintLast Go.Proofs.YtoohkcffkhnodaaW.PrintMore
attribute [local go_sem] max2_int min2_int max_two min_two max_three min_three max_four min_four
theorem put_ok2 {w0 wr : World} {p : Nat} {v : Value} {bs : List Bk} {ls : List Int} {es : List E} (h : LOk w0 wr p v bs ls es) (e : E) (hl : es.length ≤ 1000) (hn : ls.length ≤ 18) :
 Calls Try.prog 9 #[.pointer (some ⟨p, 0, none⟩), .agg #[.int .u64 e.f0, .int .i64 e.f1]] wr fun x w2 => x = .returned (.tuple #[]) ∧ ∃ v2 bs2, LOk w0 w2 p v2 bs2 (lvIns 0 ls) (e :: es) ∧ Turn wr w2 p v v2 := by
 have h1 := h.len
 have h2 := h.cnt
 refine (lsm_put w0.heap.size p v bs e wr h.hat h.good (by omega) (by omega)).mono ?_
 rintro x w2 ⟨rfl, v2, hl2, ht⟩
 exact ⟨rfl, v2, putL e bs, ⟨hl2, good_put h.good e (by omega), by rw [put_lvls h.good e (by omega), h.lv], (put_all bs e).trans (h.all.cons e), h.turn ht⟩, ht⟩
theorem drain_ok {w0 wr : World} {p : Nat} {v : Value} {bs : List Bk} {ls : List Int} {es : List E} (h : LOk w0 wr p v bs ls es) (hl : es.length ≤ 1000) (hn : ls.length ≤ 18) :
 Calls Try.prog 14 #[.pointer (some ⟨p, 0, none⟩)] wr fun x w2 => ∃ v0_ : Value, x = .returned v0_ ∧ Kd.V k28 28 w2 wr.heap.size (fun k_ => (wr.heap.size ≤ k_)) v0_ (sortE es) ∧ LOk w0 w2 p (.slice none 0 0) [] [] [] ∧ Turn wr w2 p v (.slice none 0 0) := by
 have h1 := h.len
 have h2 := h.cnt
 refine (lsm_drain w0.heap.size p v bs wr h.hat h.good.snd (by omega) (by omega)).mono ?_
 rintro x w2 ⟨v0, rfl, hv, hl2, ht⟩
 rw [sortE_of_perm h.all] at hv
 exact ⟨v0, rfl, hv, ⟨hl2, good_nil, rfl, by rw [allB_nil], h.turn ht⟩, ht⟩
def turned (a : List E) (t : Nat) (i : Nat) : List E := ((List.range i).map fun j => a.getD ((j + t) % a.length) ⟨0, 0⟩)
theorem turned_succ (a : List E) (t i : Nat) : turned a t (i + 1) = turned a t i ++ [a.getD ((i + t) % a.length) ⟨0, 0⟩] := by simp [turned, List.range_succ]
theorem turned_perm (a : List E) (t : Nat) : (turned a t a.length).Perm a := by
 by_cases h0 : a.length = 0
 · rw [List.length_eq_zero_iff.1 h0]; exact List.Perm.refl _
 · have hr : t % a.length < a.length := Nat.mod_lt _ (by omega)
   have e : turned a t a.length = a.drop (t % a.length) ++ a.take (t % a.length) := by
    apply List.ext_getElem
    · simp [turned]; omega
    · intro j h1 h2
      have hj : j < a.length := by simpa [turned] using h1
      have e1 : (turned a t a.length)[j] = a[(j + t) % a.length]'(Nat.mod_lt _ (by omega)) := by
       simp [turned, List.getD_eq_getElem?_getD, List.getElem?_eq_getElem (Nat.mod_lt (j + t) (show 0 < a.length by omega))]
      rw [e1]
      have e2 : (j + t) % a.length = (j + t % a.length) % a.length := by rw [Nat.add_mod_mod]
      by_cases hlt : j < a.length - t % a.length
      · rw [List.getElem_append_left (by rw [List.length_drop]; omega), List.getElem_drop]
        congr 1
        rw [e2, Nat.mod_eq_of_lt (by omega)]
        omega
      · rw [List.getElem_append_right (by rw [List.length_drop]; omega), List.getElem_take]
        congr 1
        rw [e2, List.length_drop, Nat.mod_eq_sub_mod (by omega), Nat.mod_eq_of_lt (by omega)]
        omega
   rw [e]
   refine List.perm_append_comm.trans ?_
   rw [List.take_append_drop]
theorem rdE_getD (a : List E) (r : Nat) : rd_T28 a (r : Int) = a.getD r ⟨0, 0⟩ := by unfold rd_T28; rw [Int.toNat_natCast]; rfl
theorem lvN_18 {m : Nat} (h : m ≤ 60) : (lvN m).length ≤ 18 := Nat.le_trans (lvN_len m (by omega)) (by omega)
set_option maxRecDepth 100000 in
set_option maxHeartbeats 8000000 in
theorem lsmDrains_walk (A : Option Addr) (c : Nat) (l : List Int) (x : Int) (w : World) (hr : Kd.C (Kd.int .u64) w A l.length l) (hc : l.length ≤ c) :
 Calls Try.prog 4 #[.slice A l.length c, .int .i64 x] w fun e w' => e = .returned (.bool true) ∧ Below w.heap.size w w' := by
 have HR := Aside0.mk hr
 have hl63 : l.length ≤ 9223372036854775807 := hr.2.1
 clear hr
 go_enter Try.func4, Try.ntmps4
 go_wp2_with fail
 refine (new_ok w).mono ?_
 rintro y w1 ⟨rfl, hk1⟩
 have HK1 := Aside0.mk hk1
 clear hk1
 go_upto_region 4 with fail
 go_cut [6] (fun s6 wx => ∃ n : Nat, s6 = .int .i64 n ∧ n ≤ 60 ∧ n ≤ l.length ∧ Aside0 (wx = w1))
 case first =>
  by_cases h : 60 < l.length
  · have d1 : decide (60 < l.length) = true := decide_eq_true h
    have d2 : (60 : Int) < (l.length : Int) := by omega
    go_wp2_with fail
    go_meet
    exact ⟨60, rfl, Nat.le_refl _, by omega, ⟨rfl⟩⟩
  · have d1 : decide (60 < l.length) = false := decide_eq_false h
    have d2 : ¬ (60 : Int) < (l.length : Int) := by omega
    go_wp2_with fail
    go_meet
    exact ⟨l.length, rfl, by omega, Nat.le_refl _, ⟨rfl⟩⟩
 case rest =>
  obtain ⟨n, rfl, hn60, hnl, HWC⟩ := hcut
  obtain rfl := HWC.out
  clear HWC
  go_wp2_with fail
  go_loopw [7] (fun i wr => ∃ (m : Nat) (v : Value) (bs : List Bk) (es : List E), i = .int .i64 m ∧ m ≤ n ∧ Aside0 (es.length = m) ∧ Aside0 (LOk w wr w.heap.size v bs (lvN m) es)) (fun i _ => n - (intOf i).toNat)
  case atStart => exact ⟨0, _, _, [], rfl, Nat.zero_le _, ⟨rfl⟩, HK1⟩
  case round =>
   clear HK1
   obtain ⟨m, v, bs, es, rfl, hm, HES, HK⟩ := hrel
   have HLV := Aside0.mk (lvN_18 (m := m) (by omega))
   have HEL := Aside0.mk (show es.length ≤ 1000 by have := HES.out; omega)
   by_cases hlt : m < n
   · have HRW := Aside0.mk (Kd.C_below HR.out HK.out.bel)
     obtain ⟨ad, rfl⟩ : ∃ ad, A = some ad := by
      obtain ⟨ad, e, _⟩ := HR.out.2.2 (by omega)
      exact ⟨ad, e⟩
     have y0 := Kd.foot_int HRW.out (m : Int) (by omega) (by omega)
     rw [Int.toNat_natCast] at y0
     generalize rd l (m : Int) = kk at y0
     have hml : m < l.length := by omega
     go_wp2_with fail
     refine (put_ok HK.out (⟨_, _⟩ : E) HEL.out HLV.out).mono ?_
     rintro y w2 ⟨rfl, v2, bs2, hk2⟩
     have HK2 := Aside0.mk hk2
     clear hk2 y0
     go_wp2
     go_roundw
     case rel => exact ⟨m + 1, v2, bs2, _, by go_num, by omega, ⟨by rw [List.length_cons, HES.out]⟩, HK2⟩
     case measure => simp [intOf]; omega
   · obtain rfl : m = n := by omega
     clear hm hlt
     go_wp2_with fail
     refine (drain_ok HK.out HEL.out HLV.out).mono ?_
     rintro y w3 ⟨va, rfl, hva, hk3, ht3⟩
     have hal : (sortE es).length = m := by rw [sortE_length, HES.out]
     have HAS := Aside0.mk (sortE_sorted es)
     have hpw : w.heap.size < wr.heap.size := HK.out.hat.lt
     have HVA := Aside0.mk (show Kd.V k28 28 w3 0 (fun k => k ≠ w.heap.size ∧ k < w3.heap.size) va (sortE es) from Kd.V_mono (Kd.V_bound hva) (fun k hk => ⟨by have := hk.1; omega, hk.2⟩))
     clear hva ht3 HK HES HLV HEL
     generalize sortE es = a at HAS HVA hal
     obtain ⟨Aa, ca, rfl⟩ := Kd.V_slice HVA.out
     have HK3 := Aside0.mk hk3
     have ha60 : a.length ≤ 60 := by omega
     subst hal
     have HAL := Aside0.mk ha60
     have HSR := Aside0.mk (show vergerref5_Sorted.f 1000 a = some true by rw [refsorted_told 1000 a (by have := HAL.out; omega) (by have := HAL.out; omega), okTo_sorted HAS.out])
     clear hk3 hpw
     have HCA := Aside0.mk (Kd.V_reads' HVA.out)
     clear ha60
     go_wp2_with fail
     refine (vergerref5_Sorted.calls 1000 Aa ca a true w3 HCA.out.2.2 HCA.out.2.1 HSR.out).mono ?_
     rintro y w4 ⟨rfl, hb4⟩
     have HVA4 := Aside0.mk (Kd.V_below HVA.out hb4)
     have HK4 := Aside0.mk (HK3.out.below hb4)
     have hs4 := hb4.size
     clear hb4 HCA
     go_wp2_with fail
     refine (lsm_len w.heap.size w.heap.size _ [] _ HK4.out.hat (by simp) (by simp [allB])).mono ?_
     rintro y w5 ⟨rfl, hb5⟩
     rw [show (allB []).length = 0 from rfl]
     have HVA5 := Aside0.mk (Kd.V_below HVA4.out hb5)
     have HK5 := Aside0.mk (HK4.out.below hb5)
     have hs5 := hb5.size
     clear hb5 HK4 HVA4
     go_wp2_with fail
     refine (drain_ok HK5.out (by simp) (by simp)).mono ?_
     rintro y w6 ⟨v6, rfl, hv6, hk6, ht6⟩
     rw [sortE_nil] at hv6
     obtain ⟨A6, c6, rfl⟩ := Kd.V_slice hv6
     have HVA6 := Aside0.mk (Kd.V_step HVA5.out (fun k hk hlt => ht6.block k hlt hk.1 (by simp [Value.ownBlock])))
     have HK6 := Aside0.mk hk6
     have HOW := Aside0.mk (show ∀ k, (Value.slice none 0 0).ownBlock = some k → w3.heap.size ≤ k by intro k hk; simp [Value.ownBlock] at hk)
     have HSZ := Aside0.mk (show w3.heap.size ≤ w6.heap.size by have h1 := hs4; have h2 := hs5; have h3 := ht6.size; omega)
     clear hv6 hk6 ht6 HK5 HVA5 HVA HK3 hs4 hs5
     have hy := and_maskL x 255 (by omega)
     rw [show ((255 : Nat) : Int) = 255 from rfl] at hy
     obtain ⟨z, hz⟩ : ∃ z : Int, bits BinOp.and IntKind.i64 x 255 = z := ⟨_, rfl⟩
     rw [hz] at hy
     obtain ⟨t, rfl⟩ : ∃ t : Nat, z = (t : Int) := ⟨z.toNat, by omega⟩
     obtain ⟨_, ht255⟩ := hy
     go_wp2_with fail
     go_loopw [9] (fun i wr => ∃ (q : Nat) (v : Value) (bs : List Bk) (es2 : List E), i = .int .i64 q ∧ q ≤ a.length ∧ Aside0 (es2 = (turned a t q).reverse) ∧ Aside0 (LOk w wr w.heap.size v bs (lvN q) es2) ∧ Aside0 (∀ k, v.ownBlock = some k → w3.heap.size ≤ k) ∧ Aside0 (Kd.V k28 28 wr 0 (fun k => k ≠ w.heap.size ∧ k < w3.heap.size) (.slice Aa a.length ca) a ∧ w3.heap.size ≤ wr.heap.size)) (fun i _ => a.length - (intOf i).toNat)
     case atStart => exact ⟨0, _, _, [], rfl, Nat.zero_le _, ⟨by simp [turned]⟩, HK6, HOW, ⟨HVA6.out, HSZ.out⟩⟩
     case round =>
      clear HK6 HOW HVA6 HSZ
      obtain ⟨q, v, bs, es2, rfl, hq, HES, HK, HOW, HV⟩ := hrel
      have ha60 := HAL.out
      have HLV := Aside0.mk (lvN_18 (m := q) (by omega))
      have hel : es2.length = q := by rw [HES.out, List.length_reverse]; simp [turned]
      have HEL := Aside0.mk (show es2.length ≤ 1000 by omega)
      clear hel
      by_cases hlt : q < a.length
      · obtain ⟨r, hr⟩ : ∃ r, (q + t) % a.length = r := ⟨_, rfl⟩
        have hrl : r < a.length := by rw [← hr]; exact Nat.mod_lt _ (by omega)
        have HTS := Aside0.mk (show turned a t (q + 1) = turned a t q ++ [a.getD r ⟨0, 0⟩] by rw [turned_succ, hr])
        obtain ⟨ad, e1, y0, y1⟩ := at_T28 (Kd.V_reads' HV.out.1).2.2 (r : Int) (by omega) (by omega)
        subst e1
        rw [Int.toNat_natCast, rdE_getD] at y0 y1
        generalize a.getD r ⟨0, 0⟩ = ee at y0 y1 HTS
        have r1 : ((q : Int) + (t : Int)).tmod (a.length : Int) = (r : Int) := by rw [Int.tmod_eq_emod_of_nonneg (by omega), ← hr]; push_cast; rfl
        have r2 : ((q : Int) + (t : Int)) % (a.length : Int) = (r : Int) := by rw [← hr]; push_cast; rfl
        have r3 : ¬ ((a.length : Int) = 0) := by omega
        have r4 : ¬ (a.length = 0) := by omega
        have r5 : ¬ (a = []) := by intro e; rw [e] at hlt; simp at hlt
        have r6 : ((a.length : Int) == 0) = false := by rw [beq_eq_false_iff_ne]; omega
        have s1 : IntKind.i64.wrap ((q : Int) + (t : Int)) = (q : Int) + (t : Int) := IntWalk.i64_in _ (by omega)
        have s2 : IntKind.i64.wrap (r : Int) = (r : Int) := IntWalk.i64_in _ (by omega)
        clear hr
        go_wp2_with fail
        refine (put_ok2 HK.out ee HEL.out HLV.out).mono ?_
        rintro y w7 ⟨rfl, v2, bs2, hk2, ht2⟩
        have HK2 := Aside0.mk hk2
        have HV2 := Aside0.mk (show Kd.V k28 28 w7 0 (fun k => k ≠ w.heap.size ∧ k < w3.heap.size) (.slice (some ad) a.length ca) a ∧ w3.heap.size ≤ w7.heap.size from ⟨Kd.V_step HV.out.1 (fun k hk hlt => ht2.block k hlt hk.1 (fun e => by have := HOW.out k e.symm; omega)), Nat.le_trans HV.out.2 ht2.size⟩)
        have HOW2 := Aside0.mk (show ∀ k, v2.ownBlock = some k → w3.heap.size ≤ k from fun k hk => by
         rcases ht2.own with h | h | ⟨b, h, hb⟩
         · rw [h] at hk; exact HOW.out k hk
         · rw [h] at hk; cases hk
         · rw [h] at hk; injection hk with hk; have := HV.out.2; omega)
        clear hk2 ht2 y0 y1 r1 r2 s1 s2
        go_wp2
        go_roundw
        case rel => exact ⟨q + 1, v2, bs2, _, by go_num, by omega, ⟨by rw [HTS.out, HES.out, List.reverse_append]; rfl⟩, HK2, HOW2, HV2⟩
        case measure => simp [intOf]; omega
      · obtain rfl : q = a.length := by omega
        have HPE := Aside0.mk (show sortE es2 = a from sortE_eq HAS.out (by rw [HES.out]; exact (turned_perm a t).symm.trans (List.reverse_perm _).symm))
        clear hz
        go_wp2_with fail
        refine (drain_ok HK.out HEL.out HLV.out).mono ?_
        rintro y w7 ⟨v7, rfl, hv7, hk7, ht7⟩
        rw [HPE.out] at hv7
        obtain ⟨A7, c7, rfl⟩ := Kd.V_slice hv7
        have HV7 := Aside0.mk (Kd.V_reads' hv7)
        have HVB := Aside0.mk (Kd.V_reads' (Kd.V_step HV.out.1 (fun k hk hlt => ht7.block k hlt hk.1 (fun e => by have := HOW.out k e.symm; omega))))
        have HK7 := Aside0.mk hk7
        clear hv7 hk7 ht7
        go_wp2_with fail
        refine (vergerref5_Same.calls 100 _ _ a _ _ a true _ HV7.out.2.2 HV7.out.2.1 HVB.out.2.2 HVB.out.2.1 (same_told 100 a (by omega) (by omega))).mono ?_
        rintro y w8 ⟨rfl, ⟨nd, rfl⟩⟩
        have HK8 := Aside0.mk (HK7.out.drewN nd)
        clear HK7
        go_wp2_with fail
        refine (lsm_check w.heap.size w.heap.size _ [] _ HK8.out.hat HK8.out.good (by simp) (by simp [allB])).mono ?_
        rintro y w9 ⟨rfl, hb9⟩
        have HB9 := Aside0.mk (HK8.out.below hb9).bel
        clear hb9
        go_wp2_with fail
        refine (awake7 _).mono ?_
        rintro y w10 ⟨rfl, hb10⟩
        have HB10 := Aside0.mk (below_then HB9.out HB9.out.size hb10)
        clear hb10
        go_wp2
        go_ret
        exact ⟨rfl, HB10.out⟩
end Go.Proofs.Ytoohkcffkhnodaa.V
end
section
set_option linter.unusedVariables false
set_option linter.unusedSimpArgs false
namespace Go.Proofs.Ytoohkcffkhnodaa.VOpen
open Go.RowKit Go.Proofs.YtoohkcffkhnodaaW.PrintWords Go.Deep Go.ChangeShapes Go.WideShapes
structure Fits {α : Type} (P : Program) (t : TypeId) (d : Kd α) (good : α → Prop) : Prop where
  sz : P.cellsOf t = d.sz
  opens : ∀ {H : Type} {enc : TypeId × Value → H} {w : World} {base : Nat} {spare : Nat → Bool} {held : Bool} {fuel : Nat} {cs : List Value} {x : DataW H × List MemPlace},
    DataW.trod enc P w base spare held fuel t cs = some x → ∃ a, d.K w a cs ∧ good a
theorem fits_int {P : Program} {t : TypeId} {k : IntKind} (ht : P.underlying t = some (.int k)) (hc : P.cellsOf t = 1) : Fits P t (Kd.int k) (fun n => (Lit.int k n).wf = true) where
 sz := hc
 opens := fun h => by
  obtain ⟨n, rfl, _, hw⟩ := DataW.trod_int ht h
  exact ⟨n, rfl, hw⟩
theorem filter_all {α : Type} (f : Nat → Option α) : ∀ (len : Nat), (∀ i, i < len → ∃ u, f i = some u) → ((List.range len).filterMap f).length = len ∧ ∀ i, i < len → ((List.range len).filterMap f)[i]? = f i := by
 intro len
 induction len with
 | zero => simp
 | succ k ih =>
  intro hf
  obtain ⟨h1, h2⟩ := ih (fun i hi => hf i (by omega))
  obtain ⟨u, hu⟩ := hf k (by omega)
  rw [List.range_succ, List.filterMap_append]
  simp only [List.filterMap_cons, hu, List.filterMap_nil]
  refine ⟨by simp [h1], fun i hi => ?_⟩
  by_cases hik : i < k
  · rw [List.getElem?_append_left (by omega)]
    exact h2 i hik
  · have : i = k := by omega
    subst this
    rw [List.getElem?_append_right (by omega), h1, hu]
    simp
theorem fits_slice {α : Type} {P : Program} {t e : TypeId} {d : Kd α} {good : α → Prop} (ht : P.underlying t = some (.slice e)) (hc : P.cellsOf t = 1) (h : Fits P e d good) : Fits P t (Kd.slice e d) (fun l => ∀ x ∈ l, good x) where
 sz := hc
 opens := fun {H enc w base spare held fuel cs x} hx => by
  rcases open_slice ht hx with ⟨rfl, _⟩ | ⟨a, len, cap, m, n, D, Pl, rfl, _, hl, hm, hmm, _, hcell⟩
  · exact ⟨[], ⟨none, 0, rfl, Nat.le_refl _, rfl, by simp, fun h0 => absurd h0 (by simp)⟩, by simp⟩
  · have hlm : len ≤ m := by rw [hmm]; split <;> omega
    have each : ∀ i, i < len → ∃ u : α, (∃ c, c.length = d.sz ∧ d.K w u c ∧ ∀ j v, c[j]? = some v → w.cell? (a.add (i * d.sz + j)) = some v) ∧ good u := by
     intro i hi
     obtain ⟨c, h1, h2⟩ := hcell i (by omega)
     rw [h.sz] at h1
     obtain ⟨_, h3, h4⟩ := World.cells?_some h1
     obtain ⟨u, hu, gu⟩ := h.opens h2
     refine ⟨u, ⟨c, h3, hu, fun j v hj => ?_⟩, gu⟩
     have hjl : j < d.sz := by have := (List.getElem?_eq_some_iff.1 hj).1; omega
     have := h4 j hjl
     rw [Addr.add_add] at this
     rw [this, hj]
    have hex : ∃ f : Nat → Option α, ∀ i, i < len → ∃ u, f i = some u ∧ (∃ c, c.length = d.sz ∧ d.K w u c ∧ ∀ j v, c[j]? = some v → w.cell? (a.add (i * d.sz + j)) = some v) ∧ good u := by
     classical
     refine ⟨fun i => if hi : i < len then some (Classical.choose (each i hi)) else none, fun i hi => ⟨Classical.choose (each i hi), by simp [hi], Classical.choose_spec (each i hi)⟩⟩
    obtain ⟨f, hf⟩ := hex
    have hlen := filter_all f len (fun i hi => (hf i hi).imp fun _ h => h.1)
    refine ⟨(List.range len).filterMap f, ⟨some a, cap, by rw [hlen.1], by rw [hlen.1]; exact hl, rfl, by rw [hlen.1]; unfold maxLen at hm; omega, fun _ => ⟨a, rfl, fun j p hj => ?_⟩⟩, fun x hx => ?_⟩
    · have hjl : j < len := by have := (List.getElem?_eq_some_iff.1 hj).1; rw [hlen.1] at this; exact this
      obtain ⟨u, hu, hc, _⟩ := hf j hjl
      rw [hlen.2 j hjl, hu] at hj
      injection hj with hj
      subst hj
      exact hc
    · obtain ⟨j, hj⟩ := List.mem_iff_getElem?.1 hx
      have hjl : j < len := by have := (List.getElem?_eq_some_iff.1 hj).1; rw [hlen.1] at this; exact this
      obtain ⟨u, hu, _, gu⟩ := hf j hjl
      rw [hlen.2 j hjl, hu] at hj
      injection hj with hj
      subst hj
      exact gu
theorem slice_arg {α : Type} {P : Program} {t e : TypeId} {d : Kd α} {good : List α → Prop} (h : Fits P t (Kd.slice e d) good) {H : Type} {enc : TypeId × Value → H} {w : World} {base : Nat} {spare : Nat → Bool} {held : Bool} {fuel : Nat} {v : Value}
 {x : DataW H × List MemPlace} {A : Option Addr} {len cap : Nat} (hv : v = .slice A len cap) (hx : DataW.trod enc P w base spare held fuel t v.cells.toList = some x) : ∃ l : List α, len = l.length ∧ l.length ≤ cap ∧ d.C w A l.length l ∧ good l := by
 subst hv
 obtain ⟨l, ⟨A', c', hcs, hl, hC⟩, hg⟩ := h.opens hx
 simp only [Value.cells, List.cons.injEq, and_true, Value.slice.injEq] at hcs
 obtain ⟨rfl, rfl, rfl⟩ := hcs
 exact ⟨l, rfl, hl, hC, hg⟩
theorem slice_bound {P : Program} {t e : TypeId} (ht : P.underlying t = some (.slice e)) {H : Type} {enc : TypeId × Value → H} {w : World} {base : Nat} {spare : Nat → Bool} {held : Bool} {fuel : Nat}
 {x : DataW H × List MemPlace} {A : Option Addr} {len cap : Nat} (hx : DataW.trod enc P w base spare held fuel t (Value.slice A len cap).cells.toList = some x)
 {ts : List TypeId} {ds : List (DataW H)} (hs : (DataW.weightsEach P ts ds).all (· ≤ reachBytes) = true) {j : Nat} (h1 : ts[j]? = some t) (h2 : ds[j]? = some x.1) {b : Nat} (hb : P.bytesOf e = b) : len * b ≤ 140737488351232 := by
 rcases DataW.trod_slice ht hx with ⟨hc, rfl⟩ | ⟨a, len', cap', elems, rest, n, _, hc, rfl, _, _, _, hl, _⟩
 · simp only [Value.cells, List.cons.injEq, and_true, Value.slice.injEq] at hc
   obtain ⟨rfl, rfl, rfl⟩ := hc
   omega
 · simp only [Value.cells, List.cons.injEq, and_true, Value.slice.injEq] at hc
   obtain ⟨rfl, rfl, rfl⟩ := hc
   have := sized_slice hs h1 h2 ht
   rw [hb, List.length_map, hl] at this
   refine Nat.le_trans (Nat.mul_le_mul_right b (Nat.le_add_right len _)) this
end Go.Proofs.Ytoohkcffkhnodaa.VOpen
end
section
set_option linter.unusedVariables false
set_option linter.unusedSimpArgs false
namespace Go.Proofs.Ytoohkcffkhnodaa.V
open Go.RowKit Go.Proofs.YtoohkcffkhnodaaW.PrintWords Go.Proofs.YtoohkcffkhnodaaW.PrintLast Go.Proofs.YtoohkcffkhnodaaW.PrintMore
def vergerlaw7_LsmDrains.f (l0 : List Int) (a1 : Int) : Option Bool := some true
theorem vergerlaw7_LsmDrains.calls (A0 : Option Addr) (c0 : Nat) (l0 : List Int) (a1 : Int) (r : Bool) (w : World) (hr0 : Kd.C (Kd.int .u64) w A0 l0.length l0) (hc0 : l0.length ≤ c0) (h : vergerlaw7_LsmDrains.f l0 a1 = some r) :
 Calls Try.prog 4 #[.slice A0 l0.length c0, .int .i64 a1] w fun e w' => e = .returned (.bool r) ∧ Below w.heap.size w w' := by
 obtain rfl := Option.some.inj h
 exact lsmDrains_walk A0 c0 l0 a1 w hr0 hc0
theorem LsmDrains_pure (l0 : List Int) (a1 : Int) {P Q R : Prop} (_ : P) (_ : Q) (_ : R) : vergerlaw7_LsmDrains.f l0 a1 = some true := rfl
end Go.Proofs.Ytoohkcffkhnodaa.V
end
