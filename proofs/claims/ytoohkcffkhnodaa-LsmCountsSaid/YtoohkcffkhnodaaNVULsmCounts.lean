-- a text of this work, without what this claim doesn't use (wip/shake.py)
import Derived.Test.YtoohkcffkhnodaaNVLsm4
import Derived.BigQuiet
import Derived.Deep.QuietTactic
import Derived.Test.YtoohkcffkhnodaaNWWords
import Derived.SizedLaws
import Derived.ChangeSlices
import Derived.WalkKit
import Derived.ProofKit
import Derived.OpenShut
import Derived.ShutString
import Derived.ChangeOld
import Derived.Below
import Derived.Deep.Slices
section
set_option linter.unusedVariables false
set_option linter.unusedSimpArgs false
namespace Go.Proofs.Ytoohkcffkhnodaa.V
open Go.RowKit Go.Proofs.YtoohkcffkhnodaaW.PrintWords Go.Proofs.YtoohkcffkhnodaaW.PrintLast Go.Proofs.YtoohkcffkhnodaaW.PrintMore
structure LOk (w0 wr : World) (p : Nat) (v : Value) (bs : List Bk) (ls : List Int) (es : List E) : Prop where
  hat : LsmAt wr w0.heap.size p v bs
  good : Good bs
  lv : lvls bs = ls
  all : (allB bs).Perm es
  bel : Below w0.heap.size w0 wr
namespace LOk
variable {w0 wr w2 : World} {p : Nat} {v : Value} {bs : List Bk} {ls : List Int} {es : List E}
theorem len (h : LOk w0 wr p v bs ls es) : bs.length = ls.length := by rw [← h.lv]; simp [lvls]
theorem cnt (h : LOk w0 wr p v bs ls es) : (allB bs).length = es.length := h.all.length_eq
theorem below (h : LOk w0 wr p v bs ls es) (hb : Below wr.heap.size wr w2) : LOk w0 w2 p v bs ls es := ⟨h.hat.below hb, h.good, h.lv, h.all, below_step h.bel hb⟩
theorem drewN (h : LOk w0 wr p v bs ls es) (m : Nat) : LOk w0 (wr.drewN m) p v bs ls es := h.below (pw_below_drewN (Below.refl _ _) m)
theorem turn (h : LOk w0 wr p v bs ls es) {v2 : Value} (ht : Turn wr w2 p v v2) : Below w0.heap.size w0 w2 := ht.below h.bel h.hat.lo (Nat.le_of_lt (Nat.lt_of_le_of_lt h.hat.lo h.hat.lt)) (fun k hk => (h.hat.own k hk).1)
end LOk
theorem put_ok {w0 wr : World} {p : Nat} {v : Value} {bs : List Bk} {ls : List Int} {es : List E} (h : LOk w0 wr p v bs ls es) (e : E) (hl : es.length ≤ 1000) (hn : ls.length ≤ 18) :
 Calls Try.prog 9 #[.pointer (some ⟨p, 0, none⟩), .agg #[.int .u64 e.f0, .int .i64 e.f1]] wr fun x w2 => x = .returned (.tuple #[]) ∧ ∃ v2 bs2, LOk w0 w2 p v2 bs2 (lvIns 0 ls) (e :: es) := by
 have h1 := h.len
 have h2 := h.cnt
 refine (lsm_put w0.heap.size p v bs e wr h.hat h.good (by omega) (by omega)).mono ?_
 rintro x w2 ⟨rfl, v2, hl2, ht⟩
 exact ⟨rfl, v2, putL e bs, hl2, good_put h.good e (by omega), by rw [put_lvls h.good e (by omega), h.lv], (put_all bs e).trans (h.all.cons e), h.turn ht⟩
theorem new_ok (w0 : World) : Calls Try.prog 8 #[] w0 fun x w2 => x = .returned (.pointer (some ⟨w0.heap.size, 0, none⟩)) ∧ LOk w0 w2 w0.heap.size (.slice none 0 0) [] [] [] := by
 refine (lsm_new w0).mono ?_
 rintro x w2 ⟨rfl, h1, h2⟩
 exact ⟨rfl, h1, good_nil, rfl, by rw [allB_nil], h2⟩
theorem sorted3 : SortedE ([⟨6, 3⟩, ⟨7, 2⟩, ⟨8, 1⟩] : List E) := by
 simp [SortedE, leE, ltE]
set_option maxRecDepth 100000 in
set_option maxHeartbeats 4000000 in
theorem awake7 (w : World) : Calls Try.prog 13 #[] w fun e w' => e = .returned (.bool true) ∧ Below w.heap.size w w' := by
 go_enter Try.func13, Try.ntmps13
 go_wp2_with fail
 refine (new_ok w).mono ?_
 rintro x w1 ⟨rfl, hk1⟩
 have HK1 := Aside0.mk hk1
 clear hk1
 go_wp2_with fail
 go_loopw [2] (fun i wr => ∃ (j : Int) (v : Value) (bs : List Bk), i = .int .i64 j ∧ ((j = 1 ∧ Aside0 (LOk w wr w.heap.size v bs [] [])) ∨ (j = 2 ∧ Aside0 (LOk w wr w.heap.size v bs (lvN 1) [⟨8, 1⟩])) ∨ (j = 3 ∧ Aside0 (LOk w wr w.heap.size v bs (lvN 2) [⟨7, 2⟩, ⟨8, 1⟩])) ∨ (j = 4 ∧ Aside0 (LOk w wr w.heap.size v bs (lvN 3) [⟨6, 3⟩, ⟨7, 2⟩, ⟨8, 1⟩])))) (fun i _ => (5 - intOf i).toNat)
 case atStart => exact ⟨1, _, _, rfl, .inl ⟨rfl, HK1⟩⟩
 case round =>
  obtain ⟨j, v, bs, rfl, hj⟩ := hrel
  rcases hj with ⟨rfl, HK⟩ | ⟨rfl, HK⟩ | ⟨rfl, HK⟩ | ⟨rfl, HK⟩
  · go_wp2_with fail
    refine (put_ok HK.out ⟨8, 1⟩ (by simp) (by simp)).mono ?_
    rintro x w2 ⟨rfl, v2, bs2, hk2⟩
    have HK2 := Aside0.mk hk2
    clear hk2
    go_wp2
    go_roundw
    case rel => exact ⟨2, v2, bs2, rfl, .inr (.inl ⟨rfl, HK2⟩)⟩
    case measure => simp [intOf]
  · go_wp2_with fail
    refine (put_ok HK.out ⟨7, 2⟩ (by simp) (by decide)).mono ?_
    rintro x w2 ⟨rfl, v2, bs2, hk2⟩
    have HK2 := Aside0.mk hk2
    clear hk2
    go_wp2
    go_roundw
    case rel => exact ⟨3, v2, bs2, rfl, .inr (.inr (.inl ⟨rfl, HK2⟩))⟩
    case measure => simp [intOf]
  · go_wp2_with fail
    refine (put_ok HK.out ⟨6, 3⟩ (by simp) (by decide)).mono ?_
    rintro x w2 ⟨rfl, v2, bs2, hk2⟩
    have HK2 := Aside0.mk hk2
    clear hk2
    go_wp2
    go_roundw
    case rel => exact ⟨4, v2, bs2, rfl, .inr (.inr (.inr ⟨rfl, HK2⟩))⟩
    case measure => simp [intOf]
  · have hlen := HK.out.len
    have hcnt := HK.out.cnt
    have hl3 : lvN 3 = [1, 0] := by decide
    have hlv := HK.out.lv
    rw [hl3] at hlv hlen
    have HLV := Aside0.mk hlv
    have HLEN := Aside0.mk (show bs.length ≤ 100 ∧ (allB bs).length ≤ 1000000 by simp at hlen hcnt; omega)
    have HCNT := Aside0.mk (show (allB bs).length = 3 from hcnt)
    have hso : sortE (allB bs) = [⟨6, 3⟩, ⟨7, 2⟩, ⟨8, 1⟩] := by rw [sortE_of_perm HK.out.all]; exact sortE_of_sorted sorted3
    have HSO := Aside0.mk hso
    clear hlen hcnt hlv hl3 hso
    go_wp2_with fail
    refine (lsm_min w.heap.size w.heap.size v bs _ HK.out.hat HLEN.out.1 HLEN.out.2).mono ?_
    rintro x w3 ⟨rfl, hb3⟩
    rw [HSO.out]
    rw [show minV ([⟨6, 3⟩, ⟨7, 2⟩, ⟨8, 1⟩] : List E) = (.agg #[.int .u64 6, .int .i64 3], true) from rfl]
    have HK3 := Aside0.mk (HK.out.below (below_step hb3 (below_alloc (Below.refl _ _) (.cells #[.int .u64 6, .int .i64 3] 28))))
    have HX := Aside0.mk (heap_alloc_new w3 (.cells #[.int .u64 6, .int .i64 3] 28))
    have HB3 := Aside0.mk (below_step HK.out.bel hb3)
    clear hb3
    go_wp2_with fail
    refine (lsm_levels w.heap.size w.heap.size v bs _ HK3.out.hat HLEN.out.1).mono ?_
    rintro x w4 ⟨v4, rfl, hv4, hb4⟩
    rw [show (bs.map fun b => b.f0) = [1, 0] from HLV.out] at hv4
    obtain ⟨A4, c4, rfl⟩ := Kd.V_slice hv4
    have hr4 := Kd.V_reads' hv4
    have hb5 := (hb4.block _ (by simp : w3.heap.size < _)).trans HX.out
    have x0 : w4.cell? ⟨w3.heap.size, 0, none⟩ = some (.int .u64 6) := by simp [World.cell?, hb5]
    have HK4 := Aside0.mk (HK3.out.below hb4)
    obtain ⟨ad, rfl⟩ : ∃ ad, A4 = some ad := by
     obtain ⟨ad, e, _⟩ := hr4.2.2.2.2 (by simp)
     exact ⟨ad, e⟩
    have y0 := Kd.foot_int hr4.2.2 0 (by omega) (by simp)
    have y1 := Kd.foot_int hr4.2.2 1 (by omega) (by simp)
    simp only [show Int.toNat 0 = 0 from rfl, show Int.toNat 1 = 1 from rfl, Addr.add_zero', show rd [1, 0] 0 = 1 from rfl, show rd [1, 0] 1 = 0 from rfl] at y0 y1
    have y2 : w4.cell? ⟨(ad.add 0).block, (ad.add 0).off + 1, none⟩ = some (.int .i64 0) := by rw [← add_field _ _ 1 (by omega)]; exact y1
    simp only [Addr.add_zero'] at y2
    clear hv4 hb4 hb5 hr4
    go_wp2_with fail
    refine (lsm_check w.heap.size w.heap.size v bs _ HK4.out.hat HK4.out.good HLEN.out.1 HLEN.out.2).mono ?_
    rintro x w5 ⟨rfl, hb5⟩
    have HK5 := Aside0.mk (HK4.out.below hb5)
    clear hb5 x0 y0 y1 y2
    go_wp2_with fail
    refine (lsm_len w.heap.size w.heap.size v bs _ HK5.out.hat HLEN.out.1 HLEN.out.2).mono ?_
    rintro x w6 ⟨rfl, hb6⟩
    rw [HCNT.out]
    have HK6 := Aside0.mk (HK5.out.below hb6)
    clear hb6
    go_wp2
    go_ret
    exact ⟨by first | rfl | simp, HK6.out.bel⟩
end Go.Proofs.Ytoohkcffkhnodaa.V
end
section
set_option linter.unusedVariables false
set_option linter.unusedSimpArgs false
namespace Go.Proofs.Ytoohkcffkhnodaa.V
open Go.RowKit Go.Proofs.YtoohkcffkhnodaaW.PrintWords Go.Proofs.YtoohkcffkhnodaaW.PrintLast Go.Proofs.YtoohkcffkhnodaaW.PrintMore
theorem and_maskL (x : Int) (m : Nat) (hm : m < 4611686018427387904) : 0 ≤ Go.bits .and .i64 x (m : Int) ∧ Go.bits .and .i64 x (m : Int) ≤ (m : Int) := by
 have h2 : (BitVec.ofInt 64 (m : Int)).toNat = m := by
  rw [BitVec.ofInt_natCast, BitVec.toNat_ofNat]; exact Nat.mod_eq_of_lt (by omega)
 have h3 : ((BitVec.ofInt 64 x) &&& (BitVec.ofInt 64 (m : Int))).toNat ≤ m := by
  rw [BitVec.toNat_and, h2]
  exact Nat.and_le_right
 show 0 ≤ IntKind.i64.wrap ((BitVec.ofInt 64 x &&& BitVec.ofInt 64 (m : Int)).toNat : Int) ∧ IntKind.i64.wrap ((BitVec.ofInt 64 x &&& BitVec.ofInt 64 (m : Int)).toNat : Int) ≤ _
 rw [i64_w]
 unfold wrap64
 omega
theorem and_one (a : Nat) (ha : a < 4611686018427387904) : Go.bits .and .i64 (a : Int) 1 = ((a % 2 : Nat) : Int) := by
 have h1 : (BitVec.ofInt 64 (a : Int)).toNat = a := by
  rw [BitVec.ofInt_natCast, BitVec.toNat_ofNat]; exact Nat.mod_eq_of_lt (by omega)
 have h3 : ((BitVec.ofInt 64 (a : Int)) &&& (BitVec.ofInt 64 1)).toNat = a % 2 := by
  rw [BitVec.toNat_and, h1]
  exact Nat.and_one_is_mod a
 show IntKind.i64.wrap ((BitVec.ofInt 64 (a : Int) &&& BitVec.ofInt 64 1).toNat : Int) = _
 rw [h3, i64_w]
 unfold wrap64
 omega
theorem lvN_len : ∀ n, n < 200 → (lvN n).length ≤ 8 := by
 have h : (List.range 200).all (fun n => decide ((lvN n).length ≤ 8)) = true := by kernel_rfl
 intro n hn
 have := List.all_eq_true.1 h n (List.mem_range.2 hn)
 simpa using this
theorem wantN_yes {n d : Nat} (h : n / 2 ^ (7 - d) % 2 = 1) : wantN n (d + 1) = wantN n d ++ [((7 - d : Nat) : Int)] := by rw [wantN, if_pos h]
theorem wantN_no {n d : Nat} (h : ¬ n / 2 ^ (7 - d) % 2 = 1) : wantN n (d + 1) = wantN n d := by rw [wantN, if_neg h, List.append_nil]
theorem wantN_len (n : Nat) : ∀ d, (wantN n d).length ≤ d := by
 intro d
 induction d with
 | zero => simp [wantN]
 | succ d ih =>
  rw [wantN, List.length_append]
  split <;> simp <;> omega
set_option maxRecDepth 100000 in
set_option maxHeartbeats 8000000 in
theorem lsmCounts_walk (x : Int) (A : Option Addr) (c : Nat) (l : List Int) (w : World) (hr : Kd.C (Kd.int .u64) w A l.length l) (hc : l.length ≤ c) :
 Calls Try.prog 3 #[.int .i64 x, .slice A l.length c] w fun e w' => e = .returned (.bool true) ∧ Below w.heap.size w w' := by
 have HR := Aside0.mk hr
 have hl63 : l.length ≤ 9223372036854775807 := hr.2.1
 clear hr
 have hy := and_maskL x 255 (by omega)
 rw [show ((255 : Nat) : Int) = 255 from rfl] at hy
 obtain ⟨z, hz⟩ : ∃ z : Int, bits BinOp.and IntKind.i64 x 255 = z := ⟨_, rfl⟩
 rw [hz] at hy
 obtain ⟨hz0, hz1⟩ := hy
 obtain ⟨n, hn, hn2⟩ : ∃ n : Nat, z.tmod 200 = (n : Int) ∧ n < 200 := ⟨(z.tmod 200).toNat, by rw [Int.tmod_eq_emod_of_nonneg hz0]; have := Int.emod_nonneg z (b := 200) (by omega); omega, by rw [Int.tmod_eq_emod_of_nonneg hz0]; have := Int.emod_lt_of_pos z (b := 200) (by omega); omega⟩
 have hn3 : z % 200 = (n : Int) := by rw [← Int.tmod_eq_emod_of_nonneg hz0]; exact hn
 go_enter Try.func3, Try.ntmps3
 go_wp2_with fail
 refine (new_ok w).mono ?_
 rintro y w1 ⟨rfl, hk1⟩
 have HK1 := Aside0.mk hk1
 clear hk1
 go_wp2_with fail
 clear hz hn hn3
 go_loopw [6] (fun i wr => ∃ (m : Nat) (v : Value) (bs : List Bk) (es : List E), i = .int .i64 m ∧ m ≤ n ∧ Aside0 (es.length = m) ∧ Aside0 (LOk w wr w.heap.size v bs (lvN m) es)) (fun i _ => n - (intOf i).toNat)
 case atStart => exact ⟨0, _, _, [], rfl, Nat.zero_le _, ⟨rfl⟩, HK1⟩
 case round =>
  clear HK1
  obtain ⟨m, v, bs, es, rfl, hm, HES, HK⟩ := hrel
  by_cases hlt : m < n
  · have hlv := lvN_len m (by omega)
    have HLV := Aside0.mk (show (lvN m).length ≤ 18 by omega)
    have HEL := Aside0.mk (show es.length ≤ 1000 by have := HES.out; omega)
    have HRW := Aside0.mk (Kd.C_below HR.out HK.out.bel)
    clear hlv
    by_cases hk : m < l.length
    · obtain ⟨ad, rfl⟩ : ∃ ad, A = some ad := by
       obtain ⟨ad, e, _⟩ := HR.out.2.2 (by omega)
       exact ⟨ad, e⟩
      have y0 := Kd.foot_int HRW.out (m : Int) (by omega) (by omega)
      rw [Int.toNat_natCast] at y0
      generalize rd l (m : Int) = kk at y0
      go_wp2_with fail
      refine (put_ok HK.out (⟨_, _⟩ : E) HEL.out HLV.out).mono ?_
      rintro y w2 ⟨rfl, v2, bs2, hk2⟩
      have HK2 := Aside0.mk hk2
      clear hk2 y0
      go_wp2
      go_roundw
      case rel => exact ⟨m + 1, v2, bs2, _, by go_num, by omega, ⟨by rw [List.length_cons, HES.out]⟩, HK2⟩
      case measure => simp [intOf]; omega
    · go_wp2_with fail
      refine (put_ok HK.out (⟨_, _⟩ : E) HEL.out HLV.out).mono ?_
      rintro y w2 ⟨rfl, v2, bs2, hk2⟩
      have HK2 := Aside0.mk hk2
      clear hk2
      go_wp2
      go_roundw
      case rel => exact ⟨m + 1, v2, bs2, _, by go_num, by omega, ⟨by rw [List.length_cons, HES.out]⟩, HK2⟩
      case measure => simp [intOf]; omega
  · obtain rfl : m = n := by omega
    clear hm hlt
    obtain ⟨W0, hW0⟩ : ∃ W0 : World, W0 = wr := ⟨_, rfl⟩
    have HK0 := HK
    rw [← hW0] at HK0
    have HW0 := Aside0.mk hW0
    clear HK hW0
    go_wp2_with fail
    go_loopw [8, 9] (fun q i wr2 => ∃ (d : Nat) (j : Int), i = .int .i64 j ∧ j = 7 - (d : Int) ∧ d ≤ 8 ∧ Aside0 (Kd.R (Kd.int .i64) 3 wr2 W0.heap.size (fun _ => True) q (wantN m d)) ∧ Aside0 (Below W0.heap.size W0 wr2)) (fun _ i _ => (intOf i + 1).toNat)
    case atStart => exact ⟨0, 7, rfl, rfl, by omega, ⟨Kd.R_nil _ _ _ _ _⟩, ⟨by rw [HW0.out]; exact Below.refl _ _⟩⟩
    case round =>
     clear HW0
     obtain ⟨d, j, rfl, hj, hd, HQ, HB⟩ := hrel
     have hd9 : d = 0 ∨ d = 1 ∨ d = 2 ∨ d = 3 ∨ d = 4 ∨ d = 5 ∨ d = 6 ∨ d = 7 ∨ d = 8 := by omega
     rcases hd9 with rfl | rfl | rfl | rfl | rfl | rfl | rfl | rfl | rfl
     · obtain rfl : j = 7 := by omega
       clear hj hd
       have HQL := Aside0.mk (show (wantN m 0).length ≤ 8 by have := wantN_len m 0; omega)
       have hb1 := and_one (m / 128) (by omega)
       by_cases hb : m / 128 % 2 = 1
       · have e1 : bits BinOp.and IntKind.i64 ((m : Int) / 128) 1 = 1 := by rw [show (m : Int) / 128 = ((m / 128 : Nat) : Int) by simp]; rw [hb1, hb]; rfl
         have HT := Aside0.mk (show wantN m (0 + 1) = wantN m 0 ++ [7] from wantN_yes (by simpa using hb))
         clear hb1 hb
         go_wp2_with (at_builtin; go_loud (refine Kd.R_append (Kd.int .i64) (w0 := W0) W0.heap.size rfl (.tmp 50) (.tmp 52) 29 3 (.int .i64 0) 8 rfl Try.underlying29 info3 rfl (by decide) (by decide) u8 (wantN m 0) 7 [.int .i64 7] (fun _ => True) (fun _ => False) rfl (by simp [Act.eval]) rfl (fun _ hk => hk.elim) (fun _ _ => trivial) HQ.out HB.out HB.out.size (by have := HQL.out; omega) ?_; intro v1 w2 ho1 hb1 hg1 hat1; have HQ1 := Aside0.mk ho1; have HB1 := Aside0.mk hb1; clear ho1 hb1 hg1 hat1))
         go_roundw
         case rel => exact ⟨1, 6, rfl, by omega, by omega, ⟨by rw [HT.out]; exact HQ1.out⟩, HB1⟩
         case measure => simp [intOf]
       · have e1 : bits BinOp.and IntKind.i64 ((m : Int) / 128) 1 = 0 := by rw [show (m : Int) / 128 = ((m / 128 : Nat) : Int) by simp]; rw [hb1]; omega
         have HT := Aside0.mk (show wantN m (0 + 1) = wantN m 0 from wantN_no (by simpa using hb))
         clear hb1 hb
         go_wp2
         go_roundw
         case rel => exact ⟨1, 6, rfl, by omega, by omega, ⟨by rw [HT.out]; exact HQ.out⟩, HB⟩
         case measure => simp [intOf]
     · obtain rfl : j = 6 := by omega
       clear hj hd
       have HQL := Aside0.mk (show (wantN m 1).length ≤ 8 by have := wantN_len m 1; omega)
       have hb1 := and_one (m / 64) (by omega)
       by_cases hb : m / 64 % 2 = 1
       · have e1 : bits BinOp.and IntKind.i64 ((m : Int) / 64) 1 = 1 := by rw [show (m : Int) / 64 = ((m / 64 : Nat) : Int) by simp]; rw [hb1, hb]; rfl
         have HT := Aside0.mk (show wantN m (1 + 1) = wantN m 1 ++ [6] from wantN_yes (by simpa using hb))
         clear hb1 hb
         go_wp2_with (at_builtin; go_loud (refine Kd.R_append (Kd.int .i64) (w0 := W0) W0.heap.size rfl (.tmp 50) (.tmp 52) 29 3 (.int .i64 0) 8 rfl Try.underlying29 info3 rfl (by decide) (by decide) u8 (wantN m 1) 6 [.int .i64 6] (fun _ => True) (fun _ => False) rfl (by simp [Act.eval]) rfl (fun _ hk => hk.elim) (fun _ _ => trivial) HQ.out HB.out HB.out.size (by have := HQL.out; omega) ?_; intro v1 w2 ho1 hb1 hg1 hat1; have HQ1 := Aside0.mk ho1; have HB1 := Aside0.mk hb1; clear ho1 hb1 hg1 hat1))
         go_roundw
         case rel => exact ⟨2, 5, rfl, by omega, by omega, ⟨by rw [HT.out]; exact HQ1.out⟩, HB1⟩
         case measure => simp [intOf]
       · have e1 : bits BinOp.and IntKind.i64 ((m : Int) / 64) 1 = 0 := by rw [show (m : Int) / 64 = ((m / 64 : Nat) : Int) by simp]; rw [hb1]; omega
         have HT := Aside0.mk (show wantN m (1 + 1) = wantN m 1 from wantN_no (by simpa using hb))
         clear hb1 hb
         go_wp2
         go_roundw
         case rel => exact ⟨2, 5, rfl, by omega, by omega, ⟨by rw [HT.out]; exact HQ.out⟩, HB⟩
         case measure => simp [intOf]
     · obtain rfl : j = 5 := by omega
       clear hj hd
       have HQL := Aside0.mk (show (wantN m 2).length ≤ 8 by have := wantN_len m 2; omega)
       have hb1 := and_one (m / 32) (by omega)
       by_cases hb : m / 32 % 2 = 1
       · have e1 : bits BinOp.and IntKind.i64 ((m : Int) / 32) 1 = 1 := by rw [show (m : Int) / 32 = ((m / 32 : Nat) : Int) by simp]; rw [hb1, hb]; rfl
         have HT := Aside0.mk (show wantN m (2 + 1) = wantN m 2 ++ [5] from wantN_yes (by simpa using hb))
         clear hb1 hb
         go_wp2_with (at_builtin; go_loud (refine Kd.R_append (Kd.int .i64) (w0 := W0) W0.heap.size rfl (.tmp 50) (.tmp 52) 29 3 (.int .i64 0) 8 rfl Try.underlying29 info3 rfl (by decide) (by decide) u8 (wantN m 2) 5 [.int .i64 5] (fun _ => True) (fun _ => False) rfl (by simp [Act.eval]) rfl (fun _ hk => hk.elim) (fun _ _ => trivial) HQ.out HB.out HB.out.size (by have := HQL.out; omega) ?_; intro v1 w2 ho1 hb1 hg1 hat1; have HQ1 := Aside0.mk ho1; have HB1 := Aside0.mk hb1; clear ho1 hb1 hg1 hat1))
         go_roundw
         case rel => exact ⟨3, 4, rfl, by omega, by omega, ⟨by rw [HT.out]; exact HQ1.out⟩, HB1⟩
         case measure => simp [intOf]
       · have e1 : bits BinOp.and IntKind.i64 ((m : Int) / 32) 1 = 0 := by rw [show (m : Int) / 32 = ((m / 32 : Nat) : Int) by simp]; rw [hb1]; omega
         have HT := Aside0.mk (show wantN m (2 + 1) = wantN m 2 from wantN_no (by simpa using hb))
         clear hb1 hb
         go_wp2
         go_roundw
         case rel => exact ⟨3, 4, rfl, by omega, by omega, ⟨by rw [HT.out]; exact HQ.out⟩, HB⟩
         case measure => simp [intOf]
     · obtain rfl : j = 4 := by omega
       clear hj hd
       have HQL := Aside0.mk (show (wantN m 3).length ≤ 8 by have := wantN_len m 3; omega)
       have hb1 := and_one (m / 16) (by omega)
       by_cases hb : m / 16 % 2 = 1
       · have e1 : bits BinOp.and IntKind.i64 ((m : Int) / 16) 1 = 1 := by rw [show (m : Int) / 16 = ((m / 16 : Nat) : Int) by simp]; rw [hb1, hb]; rfl
         have HT := Aside0.mk (show wantN m (3 + 1) = wantN m 3 ++ [4] from wantN_yes (by simpa using hb))
         clear hb1 hb
         go_wp2_with (at_builtin; go_loud (refine Kd.R_append (Kd.int .i64) (w0 := W0) W0.heap.size rfl (.tmp 50) (.tmp 52) 29 3 (.int .i64 0) 8 rfl Try.underlying29 info3 rfl (by decide) (by decide) u8 (wantN m 3) 4 [.int .i64 4] (fun _ => True) (fun _ => False) rfl (by simp [Act.eval]) rfl (fun _ hk => hk.elim) (fun _ _ => trivial) HQ.out HB.out HB.out.size (by have := HQL.out; omega) ?_; intro v1 w2 ho1 hb1 hg1 hat1; have HQ1 := Aside0.mk ho1; have HB1 := Aside0.mk hb1; clear ho1 hb1 hg1 hat1))
         go_roundw
         case rel => exact ⟨4, 3, rfl, by omega, by omega, ⟨by rw [HT.out]; exact HQ1.out⟩, HB1⟩
         case measure => simp [intOf]
       · have e1 : bits BinOp.and IntKind.i64 ((m : Int) / 16) 1 = 0 := by rw [show (m : Int) / 16 = ((m / 16 : Nat) : Int) by simp]; rw [hb1]; omega
         have HT := Aside0.mk (show wantN m (3 + 1) = wantN m 3 from wantN_no (by simpa using hb))
         clear hb1 hb
         go_wp2
         go_roundw
         case rel => exact ⟨4, 3, rfl, by omega, by omega, ⟨by rw [HT.out]; exact HQ.out⟩, HB⟩
         case measure => simp [intOf]
     · obtain rfl : j = 3 := by omega
       clear hj hd
       have HQL := Aside0.mk (show (wantN m 4).length ≤ 8 by have := wantN_len m 4; omega)
       have hb1 := and_one (m / 8) (by omega)
       by_cases hb : m / 8 % 2 = 1
       · have e1 : bits BinOp.and IntKind.i64 ((m : Int) / 8) 1 = 1 := by rw [show (m : Int) / 8 = ((m / 8 : Nat) : Int) by simp]; rw [hb1, hb]; rfl
         have HT := Aside0.mk (show wantN m (4 + 1) = wantN m 4 ++ [3] from wantN_yes (by simpa using hb))
         clear hb1 hb
         go_wp2_with (at_builtin; go_loud (refine Kd.R_append (Kd.int .i64) (w0 := W0) W0.heap.size rfl (.tmp 50) (.tmp 52) 29 3 (.int .i64 0) 8 rfl Try.underlying29 info3 rfl (by decide) (by decide) u8 (wantN m 4) 3 [.int .i64 3] (fun _ => True) (fun _ => False) rfl (by simp [Act.eval]) rfl (fun _ hk => hk.elim) (fun _ _ => trivial) HQ.out HB.out HB.out.size (by have := HQL.out; omega) ?_; intro v1 w2 ho1 hb1 hg1 hat1; have HQ1 := Aside0.mk ho1; have HB1 := Aside0.mk hb1; clear ho1 hb1 hg1 hat1))
         go_roundw
         case rel => exact ⟨5, 2, rfl, by omega, by omega, ⟨by rw [HT.out]; exact HQ1.out⟩, HB1⟩
         case measure => simp [intOf]
       · have e1 : bits BinOp.and IntKind.i64 ((m : Int) / 8) 1 = 0 := by rw [show (m : Int) / 8 = ((m / 8 : Nat) : Int) by simp]; rw [hb1]; omega
         have HT := Aside0.mk (show wantN m (4 + 1) = wantN m 4 from wantN_no (by simpa using hb))
         clear hb1 hb
         go_wp2
         go_roundw
         case rel => exact ⟨5, 2, rfl, by omega, by omega, ⟨by rw [HT.out]; exact HQ.out⟩, HB⟩
         case measure => simp [intOf]
     · obtain rfl : j = 2 := by omega
       clear hj hd
       have HQL := Aside0.mk (show (wantN m 5).length ≤ 8 by have := wantN_len m 5; omega)
       have hb1 := and_one (m / 4) (by omega)
       by_cases hb : m / 4 % 2 = 1
       · have e1 : bits BinOp.and IntKind.i64 ((m : Int) / 4) 1 = 1 := by rw [show (m : Int) / 4 = ((m / 4 : Nat) : Int) by simp]; rw [hb1, hb]; rfl
         have HT := Aside0.mk (show wantN m (5 + 1) = wantN m 5 ++ [2] from wantN_yes (by simpa using hb))
         clear hb1 hb
         go_wp2_with (at_builtin; go_loud (refine Kd.R_append (Kd.int .i64) (w0 := W0) W0.heap.size rfl (.tmp 50) (.tmp 52) 29 3 (.int .i64 0) 8 rfl Try.underlying29 info3 rfl (by decide) (by decide) u8 (wantN m 5) 2 [.int .i64 2] (fun _ => True) (fun _ => False) rfl (by simp [Act.eval]) rfl (fun _ hk => hk.elim) (fun _ _ => trivial) HQ.out HB.out HB.out.size (by have := HQL.out; omega) ?_; intro v1 w2 ho1 hb1 hg1 hat1; have HQ1 := Aside0.mk ho1; have HB1 := Aside0.mk hb1; clear ho1 hb1 hg1 hat1))
         go_roundw
         case rel => exact ⟨6, 1, rfl, by omega, by omega, ⟨by rw [HT.out]; exact HQ1.out⟩, HB1⟩
         case measure => simp [intOf]
       · have e1 : bits BinOp.and IntKind.i64 ((m : Int) / 4) 1 = 0 := by rw [show (m : Int) / 4 = ((m / 4 : Nat) : Int) by simp]; rw [hb1]; omega
         have HT := Aside0.mk (show wantN m (5 + 1) = wantN m 5 from wantN_no (by simpa using hb))
         clear hb1 hb
         go_wp2
         go_roundw
         case rel => exact ⟨6, 1, rfl, by omega, by omega, ⟨by rw [HT.out]; exact HQ.out⟩, HB⟩
         case measure => simp [intOf]
     · obtain rfl : j = 1 := by omega
       clear hj hd
       have HQL := Aside0.mk (show (wantN m 6).length ≤ 8 by have := wantN_len m 6; omega)
       have hb1 := and_one (m / 2) (by omega)
       by_cases hb : m / 2 % 2 = 1
       · have e1 : bits BinOp.and IntKind.i64 ((m : Int) / 2) 1 = 1 := by rw [show (m : Int) / 2 = ((m / 2 : Nat) : Int) by simp]; rw [hb1, hb]; rfl
         have HT := Aside0.mk (show wantN m (6 + 1) = wantN m 6 ++ [1] from wantN_yes (by simpa using hb))
         clear hb1 hb
         go_wp2_with (at_builtin; go_loud (refine Kd.R_append (Kd.int .i64) (w0 := W0) W0.heap.size rfl (.tmp 50) (.tmp 52) 29 3 (.int .i64 0) 8 rfl Try.underlying29 info3 rfl (by decide) (by decide) u8 (wantN m 6) 1 [.int .i64 1] (fun _ => True) (fun _ => False) rfl (by simp [Act.eval]) rfl (fun _ hk => hk.elim) (fun _ _ => trivial) HQ.out HB.out HB.out.size (by have := HQL.out; omega) ?_; intro v1 w2 ho1 hb1 hg1 hat1; have HQ1 := Aside0.mk ho1; have HB1 := Aside0.mk hb1; clear ho1 hb1 hg1 hat1))
         go_roundw
         case rel => exact ⟨7, 0, rfl, by omega, by omega, ⟨by rw [HT.out]; exact HQ1.out⟩, HB1⟩
         case measure => simp [intOf]
       · have e1 : bits BinOp.and IntKind.i64 ((m : Int) / 2) 1 = 0 := by rw [show (m : Int) / 2 = ((m / 2 : Nat) : Int) by simp]; rw [hb1]; omega
         have HT := Aside0.mk (show wantN m (6 + 1) = wantN m 6 from wantN_no (by simpa using hb))
         clear hb1 hb
         go_wp2
         go_roundw
         case rel => exact ⟨7, 0, rfl, by omega, by omega, ⟨by rw [HT.out]; exact HQ.out⟩, HB⟩
         case measure => simp [intOf]
     · obtain rfl : j = 0 := by omega
       clear hj hd
       have HQL := Aside0.mk (show (wantN m 7).length ≤ 8 by have := wantN_len m 7; omega)
       have hb1 := and_one (m) (by omega)
       by_cases hb : m % 2 = 1
       · have e1 : bits BinOp.and IntKind.i64 ((m : Int)) 1 = 1 := by rw [show (m : Int) = ((m : Nat) : Int) by simp]; rw [hb1, hb]; rfl
         have HT := Aside0.mk (show wantN m (7 + 1) = wantN m 7 ++ [0] from wantN_yes (by simpa using hb))
         clear hb1 hb
         go_wp2_with (at_builtin; go_loud (refine Kd.R_append (Kd.int .i64) (w0 := W0) W0.heap.size rfl (.tmp 50) (.tmp 52) 29 3 (.int .i64 0) 8 rfl Try.underlying29 info3 rfl (by decide) (by decide) u8 (wantN m 7) 0 [.int .i64 0] (fun _ => True) (fun _ => False) rfl (by simp [Act.eval]) rfl (fun _ hk => hk.elim) (fun _ _ => trivial) HQ.out HB.out HB.out.size (by have := HQL.out; omega) ?_; intro v1 w2 ho1 hb1 hg1 hat1; have HQ1 := Aside0.mk ho1; have HB1 := Aside0.mk hb1; clear ho1 hb1 hg1 hat1))
         go_roundw
         case rel => exact ⟨8, -1, rfl, by omega, by omega, ⟨by rw [HT.out]; exact HQ1.out⟩, HB1⟩
         case measure => simp [intOf]
       · have e1 : bits BinOp.and IntKind.i64 ((m : Int)) 1 = 0 := by rw [show (m : Int) = ((m : Nat) : Int) by simp]; rw [hb1]; omega
         have HT := Aside0.mk (show wantN m (7 + 1) = wantN m 7 from wantN_no (by simpa using hb))
         clear hb1 hb
         go_wp2
         go_roundw
         case rel => exact ⟨8, -1, rfl, by omega, by omega, ⟨by rw [HT.out]; exact HQ.out⟩, HB⟩
         case measure => simp [intOf]
     · obtain rfl : j = -1 := by omega
       have hL := lvN_bits m hn2
       rw [← hL] at HQ
       obtain ⟨A8, c8, e8⟩ := Kd.R_slice HQ.out
       subst e8
       have HK := Aside0.mk (HK0.out.below HB.out)
       have HLEN := Aside0.mk (show bs.length ≤ 100 ∧ (allB bs).length ≤ 1000000 from by
        have h1 := HK.out.len
        have h2 := HK.out.cnt
        have h3 := lvN_len m hn2
        have h4 := HES.out
        omega)
       have HCNT := Aside0.mk (show (allB bs).length = m from HK.out.cnt.trans HES.out)
       have HLL := Aside0.mk (lvN_len m hn2)
       clear hL hj hd
       go_wp2_with fail
       refine (lsm_levels w.heap.size w.heap.size v bs _ HK.out.hat HLEN.out.1).mono ?_
       rintro y w4 ⟨v4, rfl, hv4, hb4⟩
       rw [show (bs.map fun b => b.f0) = lvN m from HK.out.lv] at hv4
       obtain ⟨A4, c4, rfl⟩ := Kd.V_slice hv4
       have HV4 := Aside0.mk hv4
       have HQ4 := Aside0.mk (Kd.R_below HQ.out hb4)
       have HK4 := Aside0.mk (HK.out.below hb4)
       clear hv4 hb4
       go_wp2_with fail
       refine (lsm_len w.heap.size w.heap.size v bs _ HK4.out.hat HLEN.out.1 HLEN.out.2).mono ?_
       rintro y w5 ⟨rfl, hb5⟩
       rw [HCNT.out]
       have HV5 := Aside0.mk (Kd.V_below HV4.out hb5)
       have HQ5 := Aside0.mk (Kd.R_below HQ4.out hb5)
       have HK5 := Aside0.mk (HK4.out.below hb5)
       clear hb5
       go_wp2_with fail
       refine (lsm_check w.heap.size w.heap.size v bs _ HK5.out.hat HK5.out.good HLEN.out.1 HLEN.out.2).mono ?_
       rintro y w6 ⟨rfl, hb6⟩
       have HV6 := Aside0.mk (Kd.V_reads' (Kd.V_below HV5.out hb6)).2.2
       have HQ6 := Aside0.mk (Kd.R_reads' (Kd.R_below HQ5.out hb6)).2.2
       have HB6 := Aside0.mk (HK5.out.below hb6).bel
       clear hb6 HV5 HQ5 HK5 HV4 HQ4 HK4
       go_wp2
       go_loopw [11] (fun i wr3 => ∃ q : Nat, q ≤ (lvN m).length ∧ i = .int .i64 q ∧ Aside0 (Kd.C (Kd.int .i64) wr3 A4 (lvN m).length (lvN m)) ∧ Aside0 (Kd.C (Kd.int .i64) wr3 A8 (lvN m).length (lvN m)) ∧ Aside0 (Below w.heap.size w wr3)) (fun i _ => (lvN m).length - (intOf i).toNat)
       case atStart => exact ⟨0, Nat.zero_le _, rfl, HV6, HQ6, HB6⟩
       case round =>
        clear HV6 HQ6 HB6
        obtain ⟨q, hq, rfl, HV, HQ, HB⟩ := hrel
        by_cases hlt : q < (lvN m).length
        · obtain ⟨ad, rfl⟩ : ∃ ad, A4 = some ad := by
           obtain ⟨ad, e, _⟩ := HV.out.2.2 (by omega)
           exact ⟨ad, e⟩
          obtain ⟨ad', rfl⟩ : ∃ ad, A8 = some ad := by
           obtain ⟨ad, e, _⟩ := HQ.out.2.2 (by omega)
           exact ⟨ad, e⟩
          have y0 := Kd.foot_int HV.out (q : Int) (by omega) (by omega)
          have y1 := Kd.foot_int HQ.out (q : Int) (by omega) (by omega)
          rw [Int.toNat_natCast] at y0 y1
          generalize rd (lvN m) (q : Int) = kk at y0 y1
          have hq8 : q ≤ 8 := by have := HLL.out; omega
          go_wp2
          go_quiet (fail)
          go_wp2
          go_roundw
          case rel => exact ⟨q + 1, by omega, by go_num, ⟨Kd.C_drewN HV.out _⟩, ⟨Kd.C_drewN HQ.out _⟩, ⟨pw_below_drewN HB.out _⟩⟩
          case measure => simp [intOf]; omega
        · obtain rfl : q = (lvN m).length := by omega
          go_wp2_with fail
          refine (awake7 _).mono ?_
          rintro y w7 ⟨rfl, hb7⟩
          have HB7 := Aside0.mk (below_then HB.out HB.out.size hb7)
          clear hb7
          go_wp2
          go_ret
          exact ⟨rfl, HB7.out⟩
end Go.Proofs.Ytoohkcffkhnodaa.V
end
section
set_option linter.unusedVariables false
set_option linter.unusedSimpArgs false
namespace Go.Proofs.Ytoohkcffkhnodaa.VOpen
open Go.RowKit Go.Proofs.YtoohkcffkhnodaaW.PrintWords Go.Deep Go.ChangeShapes Go.WideShapes
structure Fits {α : Type} (P : Program) (t : TypeId) (d : Kd α) (good : α → Prop) : Prop where
  sz : P.cellsOf t = d.sz
  opens : ∀ {H : Type} {enc : TypeId × Value → H} {w : World} {base : Nat} {spare : Nat → Bool} {held : Bool} {fuel : Nat} {cs : List Value} {x : DataW H × List MemPlace},
    DataW.trod enc P w base spare held fuel t cs = some x → ∃ a, d.K w a cs ∧ good a
theorem fits_int {P : Program} {t : TypeId} {k : IntKind} (ht : P.underlying t = some (.int k)) (hc : P.cellsOf t = 1) : Fits P t (Kd.int k) (fun n => (Lit.int k n).wf = true) where
 sz := hc
 opens := fun h => by
  obtain ⟨n, rfl, _, hw⟩ := DataW.trod_int ht h
  exact ⟨n, rfl, hw⟩
theorem filter_all {α : Type} (f : Nat → Option α) : ∀ (len : Nat), (∀ i, i < len → ∃ u, f i = some u) → ((List.range len).filterMap f).length = len ∧ ∀ i, i < len → ((List.range len).filterMap f)[i]? = f i := by
 intro len
 induction len with
 | zero => simp
 | succ k ih =>
  intro hf
  obtain ⟨h1, h2⟩ := ih (fun i hi => hf i (by omega))
  obtain ⟨u, hu⟩ := hf k (by omega)
  rw [List.range_succ, List.filterMap_append]
  simp only [List.filterMap_cons, hu, List.filterMap_nil]
  refine ⟨by simp [h1], fun i hi => ?_⟩
  by_cases hik : i < k
  · rw [List.getElem?_append_left (by omega)]
    exact h2 i hik
  · have : i = k := by omega
    subst this
    rw [List.getElem?_append_right (by omega), h1, hu]
    simp
theorem fits_slice {α : Type} {P : Program} {t e : TypeId} {d : Kd α} {good : α → Prop} (ht : P.underlying t = some (.slice e)) (hc : P.cellsOf t = 1) (h : Fits P e d good) : Fits P t (Kd.slice e d) (fun l => ∀ x ∈ l, good x) where
 sz := hc
 opens := fun {H enc w base spare held fuel cs x} hx => by
  rcases open_slice ht hx with ⟨rfl, _⟩ | ⟨a, len, cap, m, n, D, Pl, rfl, _, hl, hm, hmm, _, hcell⟩
  · exact ⟨[], ⟨none, 0, rfl, Nat.le_refl _, rfl, by simp, fun h0 => absurd h0 (by simp)⟩, by simp⟩
  · have hlm : len ≤ m := by rw [hmm]; split <;> omega
    have each : ∀ i, i < len → ∃ u : α, (∃ c, c.length = d.sz ∧ d.K w u c ∧ ∀ j v, c[j]? = some v → w.cell? (a.add (i * d.sz + j)) = some v) ∧ good u := by
     intro i hi
     obtain ⟨c, h1, h2⟩ := hcell i (by omega)
     rw [h.sz] at h1
     obtain ⟨_, h3, h4⟩ := World.cells?_some h1
     obtain ⟨u, hu, gu⟩ := h.opens h2
     refine ⟨u, ⟨c, h3, hu, fun j v hj => ?_⟩, gu⟩
     have hjl : j < d.sz := by have := (List.getElem?_eq_some_iff.1 hj).1; omega
     have := h4 j hjl
     rw [Addr.add_add] at this
     rw [this, hj]
    have hex : ∃ f : Nat → Option α, ∀ i, i < len → ∃ u, f i = some u ∧ (∃ c, c.length = d.sz ∧ d.K w u c ∧ ∀ j v, c[j]? = some v → w.cell? (a.add (i * d.sz + j)) = some v) ∧ good u := by
     classical
     refine ⟨fun i => if hi : i < len then some (Classical.choose (each i hi)) else none, fun i hi => ⟨Classical.choose (each i hi), by simp [hi], Classical.choose_spec (each i hi)⟩⟩
    obtain ⟨f, hf⟩ := hex
    have hlen := filter_all f len (fun i hi => (hf i hi).imp fun _ h => h.1)
    refine ⟨(List.range len).filterMap f, ⟨some a, cap, by rw [hlen.1], by rw [hlen.1]; exact hl, rfl, by rw [hlen.1]; unfold maxLen at hm; omega, fun _ => ⟨a, rfl, fun j p hj => ?_⟩⟩, fun x hx => ?_⟩
    · have hjl : j < len := by have := (List.getElem?_eq_some_iff.1 hj).1; rw [hlen.1] at this; exact this
      obtain ⟨u, hu, hc, _⟩ := hf j hjl
      rw [hlen.2 j hjl, hu] at hj
      injection hj with hj
      subst hj
      exact hc
    · obtain ⟨j, hj⟩ := List.mem_iff_getElem?.1 hx
      have hjl : j < len := by have := (List.getElem?_eq_some_iff.1 hj).1; rw [hlen.1] at this; exact this
      obtain ⟨u, hu, _, gu⟩ := hf j hjl
      rw [hlen.2 j hjl, hu] at hj
      injection hj with hj
      subst hj
      exact gu
theorem slice_arg {α : Type} {P : Program} {t e : TypeId} {d : Kd α} {good : List α → Prop} (h : Fits P t (Kd.slice e d) good) {H : Type} {enc : TypeId × Value → H} {w : World} {base : Nat} {spare : Nat → Bool} {held : Bool} {fuel : Nat} {v : Value}
 {x : DataW H × List MemPlace} {A : Option Addr} {len cap : Nat} (hv : v = .slice A len cap) (hx : DataW.trod enc P w base spare held fuel t v.cells.toList = some x) : ∃ l : List α, len = l.length ∧ l.length ≤ cap ∧ d.C w A l.length l ∧ good l := by
 subst hv
 obtain ⟨l, ⟨A', c', hcs, hl, hC⟩, hg⟩ := h.opens hx
 simp only [Value.cells, List.cons.injEq, and_true, Value.slice.injEq] at hcs
 obtain ⟨rfl, rfl, rfl⟩ := hcs
 exact ⟨l, rfl, hl, hC, hg⟩
theorem slice_bound {P : Program} {t e : TypeId} (ht : P.underlying t = some (.slice e)) {H : Type} {enc : TypeId × Value → H} {w : World} {base : Nat} {spare : Nat → Bool} {held : Bool} {fuel : Nat}
 {x : DataW H × List MemPlace} {A : Option Addr} {len cap : Nat} (hx : DataW.trod enc P w base spare held fuel t (Value.slice A len cap).cells.toList = some x)
 {ts : List TypeId} {ds : List (DataW H)} (hs : (DataW.weightsEach P ts ds).all (· ≤ reachBytes) = true) {j : Nat} (h1 : ts[j]? = some t) (h2 : ds[j]? = some x.1) {b : Nat} (hb : P.bytesOf e = b) : len * b ≤ 140737488351232 := by
 rcases DataW.trod_slice ht hx with ⟨hc, rfl⟩ | ⟨a, len', cap', elems, rest, n, _, hc, rfl, _, _, _, hl, _⟩
 · simp only [Value.cells, List.cons.injEq, and_true, Value.slice.injEq] at hc
   obtain ⟨rfl, rfl, rfl⟩ := hc
   omega
 · simp only [Value.cells, List.cons.injEq, and_true, Value.slice.injEq] at hc
   obtain ⟨rfl, rfl, rfl⟩ := hc
   have := sized_slice hs h1 h2 ht
   rw [hb, List.length_map, hl] at this
   refine Nat.le_trans (Nat.mul_le_mul_right b (Nat.le_add_right len _)) this
end Go.Proofs.Ytoohkcffkhnodaa.VOpen
end
section
set_option linter.unusedVariables false
set_option linter.unusedSimpArgs false
namespace Go.Proofs.Ytoohkcffkhnodaa.V
open Go.RowKit Go.Proofs.YtoohkcffkhnodaaW.PrintWords Go.Proofs.YtoohkcffkhnodaaW.PrintLast Go.Proofs.YtoohkcffkhnodaaW.PrintMore
def vergerlaw7_LsmCounts.f (a0 : Int) (l1 : List Int) : Option Bool := some true
theorem vergerlaw7_LsmCounts.calls (a0 : Int) (A1 : Option Addr) (c1 : Nat) (l1 : List Int) (r : Bool) (w : World) (hr1 : Kd.C (Kd.int .u64) w A1 l1.length l1) (hc1 : l1.length ≤ c1) (h : vergerlaw7_LsmCounts.f a0 l1 = some r) :
 Calls Try.prog 3 #[.int .i64 a0, .slice A1 l1.length c1] w fun e w' => e = .returned (.bool r) ∧ Below w.heap.size w w' := by
 obtain rfl := Option.some.inj h
 exact lsmCounts_walk a0 A1 c1 l1 w hr1 hc1
theorem LsmCounts_pure (a0 : Int) (l1 : List Int) {P Q R : Prop} (_ : P) (_ : Q) (_ : R) : vergerlaw7_LsmCounts.f a0 l1 = some true := rfl
end Go.Proofs.Ytoohkcffkhnodaa.V
end
