-- a text of this work, without what this claim doesn't use (wip/shake.py)
import Derived.Test.YtijancajlmneeaaDVSh7
import Derived.Test.YtijancajlmneeaaDVP5T
import Derived.Test.YtijancajlmneeaaDVPvergerref51
import Derived.Deep.DeepCutAuto
import Derived.Deep.CutBlock
import Derived.Test.YtijancajlmneeaaDWWords
import Derived.SizedLaws
import Derived.ChangeSlices
import Derived.WalkKit
import Derived.ProofKit
import Derived.OpenShut
import Derived.ShutString
import Derived.ChangeOld
import Derived.Below
import Derived.Deep.Slices
section
set_option linter.unusedVariables false
set_option linter.unusedSimpArgs false
namespace Go.Proofs.Ytijancajlmneeaa.V
open Go.RowKit Go.Proofs.YtijancajlmneeaaW.PrintWords Go.Proofs.YtijancajlmneeaaW.PrintLast Go.Proofs.YtijancajlmneeaaW.PrintMore
structure SOk (w0 wr : World) (p : Nat) (ver : Int) (v : Value) (bs : List Bk) (es : List E) : Prop where
  hat : ShAt wr w0.heap.size p ver v bs
  ok : ∀ b ∈ bs, okB b = true
  all : (allB bs).Perm es
  bel : Below w0.heap.size w0 wr
namespace SOk
variable {w0 wr w2 : World} {p : Nat} {ver : Int} {v v2 : Value} {bs cs : List Bk} {es : List E}
theorem below (h : SOk w0 wr p ver v bs es) (hb : Below wr.heap.size wr w2) : SOk w0 w2 p ver v bs es := ⟨h.hat.below hb, h.ok, h.all, below_step h.bel hb⟩
theorem cnt (h : SOk w0 wr p ver v bs es) : (allB bs).length = es.length := h.all.length_eq
theorem step (h : SOk w0 wr p ver v bs es) (hg : wr.grownBy w2 (some p)) : Below w0.heap.size w0 w2 := below_grown h.bel hg (fun k hk => by injection hk with hk; have := h.hat.lo; omega)
theorem drewN (h : SOk w0 wr p ver v bs es) (m : Nat) : SOk w0 (wr.drewN m) p ver v bs es := h.below (pw_below_drewN (Below.refl _ _) m)
end SOk
theorem snew_ok (w0 : World) : Calls Try.prog 11 #[] w0 fun x w2 => x = .returned (.pointer (some ⟨w0.heap.size, 0, none⟩)) ∧ SOk w0 w2 w0.heap.size 0 (.slice none 0 0) [] [] := by
 refine (sh_new w0).mono ?_
 rintro x w2 ⟨rfl, h1, h2⟩
 exact ⟨rfl, h1, by simp, by rw [allB_nil], h2⟩
theorem sadd_ok {w0 wr : World} {p : Nat} {ver : Int} {v : Value} {bs : List Bk} {es : List E} (h : SOk w0 wr p ver v bs es) (A : Option Addr) (c : Nat) (l : List E) (hv : 0 ≤ ver ∧ ver ≤ 1000000) (hr : k28.C wr A l.length l) (hc : l.length ≤ c) (hne : l ≠ []) (hl : bs.length ≤ 900) (ha : es.length + l.length ≤ 1000000) :
 Calls Try.prog 13 #[.pointer (some ⟨p, 0, none⟩), .slice A l.length c] wr fun x w2 => x = .returned (.tuple #[]) ∧ (∃ v2, SOk w0 w2 p (ver + 1) v2 (addL l bs) (l ++ es)) ∧ wr.grownBy w2 (some p) := by
 refine (sh_add w0.heap.size p ver v bs A c l wr h.hat hv hr hc hne hl (by have := h.cnt; omega) h.ok).mono ?_
 rintro x w2 ⟨rfl, v2, hs, hg⟩
 exact ⟨rfl, ⟨v2, hs, addL_okB h.ok, (addL_all l bs).trans (h.all.append_left l), h.step hg⟩, hg⟩
theorem sadd_okN {w0 wr : World} {p : Nat} {ver : Int} {v : Value} {bs : List Bk} {es : List E} (h : SOk w0 wr p ver v bs es) (A : Option Addr) (n c : Nat) (l : List E) (hn : n = l.length) (hv : 0 ≤ ver ∧ ver ≤ 1000000) (hr : k28.C wr A l.length l) (hc : l.length ≤ c) (hne : l ≠ []) (hl : bs.length ≤ 900) (ha : es.length + l.length ≤ 1000000) :
 Calls Try.prog 13 #[.pointer (some ⟨p, 0, none⟩), .slice A n c] wr fun x w2 => x = .returned (.tuple #[]) ∧ (∃ v2, SOk w0 w2 p (ver + 1) v2 (addL l bs) (l ++ es)) ∧ wr.grownBy w2 (some p) := by
 subst hn; exact sadd_ok h A c l hv hr hc hne hl ha
theorem slen_ok {w0 wr : World} {p : Nat} {ver : Int} {v : Value} {bs : List Bk} {es : List E} (h : SOk w0 wr p ver v bs es) (hl : bs.length ≤ 1000) (ha : es.length ≤ 1000000) :
 Calls Try.prog 15 #[.pointer (some ⟨p, 0, none⟩)] wr fun x w2 => x = .returned (.int .i64 es.length) ∧ Below wr.heap.size wr w2 := by
 have h2 := h.cnt
 rw [← h2]
 exact sh_len w0.heap.size p ver v bs wr h.hat hl (by omega)
theorem ssnap_ok {w0 wr : World} {p : Nat} {ver : Int} {v : Value} {bs : List Bk} {es : List E} (h : SOk w0 wr p ver v bs es) (hl : bs.length ≤ 1000) (ha : es.length ≤ 1000000) :
 Calls Try.prog 12 #[.pointer (some ⟨p, 0, none⟩)] wr fun x w2 => ∃ A1 c1, x = .returned (.agg #[.int .u64 ver, .slice A1 bs.length c1]) ∧ Kd.V k35 35 w2 0 (fun k => k ≠ p) (.slice A1 bs.length c1) bs ∧ Below wr.heap.size wr w2 := by
 have h2 := h.cnt
 exact sh_snap w0.heap.size p ver v bs wr h.hat hl (by omega)
theorem three_C {W : World} {g : Nat} {a b c : E} (h : W.heap[g]? = some (.cells #[.int .u64 a.f0, .int .i64 a.f1, .int .u64 b.f0, .int .i64 b.f1, .int .u64 c.f0, .int .i64 c.f1] 28 (0, 0))) : k28.C W (some ⟨g, 0, none⟩) ([a, b, c] : List E).length [a, b, c] :=
 (Kd.R_reads' (row_close (e := 28) (base := 0) (ok := fun _ => True) (c := 3) (l := [a, b, c]) (Nat.zero_le _) trivial h (by omega) (by simp) rfl rfl)).2.2
theorem sorted_3 : sortE [⟨4, 1⟩, ⟨2, 2⟩, ⟨9, 3⟩] = ([⟨2, 2⟩, ⟨4, 1⟩, ⟨9, 3⟩] : List E) := by
 refine sortE_eq ?_ ?_
 · simp [SortedE, leE, ltE]
 · exact List.Perm.swap _ _ _
theorem add_nil (l : List E) : addL l [] = [mkB l] := rfl
set_option maxRecDepth 100000 in
set_option maxHeartbeats 4000000 in
theorem awake8 (w : World) : Calls Try.prog 16 #[] w fun e w' => e = .returned (.bool true) ∧ Below w.heap.size w w' := by
 go_enter Try.func16, Try.ntmps16
 go_wp2_with fail
 refine (snew_ok w).mono ?_
 rintro x w1 ⟨rfl, hk1⟩
 have HK1 := Aside0.mk hk1
 clear hk1
 have HZ := Aside0.mk (below_alloc (Below.refl w1.heap.size w1) (.cells #[.int .u64 4, .int .i64 1, .int .u64 2, .int .i64 2, .int .u64 9, .int .i64 3] 28))
 have HC := Aside0.mk (three_C (a := ⟨4, 1⟩) (b := ⟨2, 2⟩) (c := ⟨9, 3⟩) (heap_alloc_new w1 (.cells #[.int .u64 4, .int .i64 1, .int .u64 2, .int .i64 2, .int .u64 9, .int .i64 3] 28)))
 have HK2 := Aside0.mk (HK1.out.below HZ.out)
 go_wp2_with fail
 refine (sadd_ok HK2.out (some ⟨w1.heap.size, 0, none⟩) 3 [⟨4, 1⟩, ⟨2, 2⟩, ⟨9, 3⟩] (by decide) HC.out (by decide) (by simp) (by simp) (by simp)).mono ?_
 rintro x w3 ⟨rfl, ⟨v3, hk3⟩, hg3⟩
 rw [add_nil] at hk3
 have HK3 := Aside0.mk hk3
 clear hk3 hg3 HC HZ HK2
 have HCA := Aside0.mk (show firsts 0 (allB [mkB [⟨4, 1⟩, ⟨2, 2⟩, ⟨9, 3⟩]]) = [⟨2, 2⟩] by
  unfold firsts
  rw [show sortE (allB [mkB [⟨4, 1⟩, ⟨2, 2⟩, ⟨9, 3⟩]]) = sortE [⟨4, 1⟩, ⟨2, 2⟩, ⟨9, 3⟩] from sortE_of_perm HK3.out.all, sorted_3, clampN_mid (by omega) (by omega)]
  rfl)
 have HAL := Aside0.mk (show (allB [mkB [⟨4, 1⟩, ⟨2, 2⟩, ⟨9, 3⟩]]).length ≤ 1000000 by rw [HK3.out.cnt]; simp)
 go_wp2_with fail
 refine (sh_cand w.heap.size w.heap.size 1 v3 _ 0 77 _ HK3.out.hat (by omega) (by simp) HAL.out).mono ?_
 rintro x w4 hp4
 unfold CandPost at hp4
 rw [HCA.out, show drawnE [⟨2, 2⟩] 77 = (.agg #[.int .u64 2, .int .i64 2], true) from rfl] at hp4
 obtain ⟨rfl, hb4⟩ := hp4
 have HK4 := Aside0.mk (HK3.out.below hb4)
 have HZ5 := Aside0.mk (below_alloc (Below.refl w4.heap.size w4) (.cells #[.int .u64 2, .int .i64 2] 28))
 have HX5 := Aside0.mk (heap_alloc_new w4 (.cells #[.int .u64 2, .int .i64 2] 28))
 have HK5 := Aside0.mk (HK4.out.below HZ5.out)
 clear hb4 HCA
 go_wp2_with fail
 refine (ssnap_ok HK5.out (by simp) (by simp)).mono ?_
 rintro x w6 ⟨A6, c6, rfl, hv6, hb6⟩
 have HK6 := Aside0.mk (HK5.out.below hb6)
 have hx6 := blk_below HX5.out hb6
 have HZ7 := Aside0.mk (below_alloc (Below.refl w6.heap.size w6) (.cells #[.int .u64 1, .slice A6 1 c6] 31))
 have hx7 := heap_alloc_new w6 (.cells #[.int .u64 1, .slice A6 1 c6] 31)
 have HK7 := Aside0.mk (HK6.out.below HZ7.out)
 have x0 := (blk_cell (blk_below hx6 HZ7.out) 0).trans rfl
 have y0 := (blk_cell hx7 0).trans rfl
 have y1 := (blk_cell hx7 1).trans rfl
 clear hv6 hb6 hx6 hx7 HX5 HZ5 HZ7
 go_wp2_with fail
 refine (slen_ok HK7.out (by simp) (by simp)).mono ?_
 rintro x w8 ⟨rfl, hb8⟩
 have HB8 := Aside0.mk (HK7.out.below hb8).bel
 clear hb8
 go_wp2
 go_ret
 exact ⟨by first | rfl | simp, HB8.out⟩
end Go.Proofs.Ytijancajlmneeaa.V
end
section
set_option linter.unusedVariables false
set_option linter.unusedSimpArgs false
namespace Go.Proofs.Ytijancajlmneeaa.V
open Go.RowKit Go.Proofs.YtijancajlmneeaaW.PrintWords Go.Proofs.YtijancajlmneeaaW.PrintLast Go.Proofs.YtijancajlmneeaaW.PrintMore
theorem and_maskL (x : Int) (m : Nat) (hm : m < 4611686018427387904) : 0 ≤ Go.bits .and .i64 x (m : Int) ∧ Go.bits .and .i64 x (m : Int) ≤ (m : Int) := by
 have h2 : (BitVec.ofInt 64 (m : Int)).toNat = m := by
  rw [BitVec.ofInt_natCast, BitVec.toNat_ofNat]; exact Nat.mod_eq_of_lt (by omega)
 have h3 : ((BitVec.ofInt 64 x) &&& (BitVec.ofInt 64 (m : Int))).toNat ≤ m := by
  rw [BitVec.toNat_and, h2]
  exact Nat.and_le_right
 show 0 ≤ IntKind.i64.wrap ((BitVec.ofInt 64 x &&& BitVec.ofInt 64 (m : Int)).toNat : Int) ∧ IntKind.i64.wrap ((BitVec.ofInt 64 x &&& BitVec.ofInt 64 (m : Int)).toNat : Int) ≤ _
 rw [i64_w]
 unfold wrap64
 omega
end Go.Proofs.Ytijancajlmneeaa.V
end
section
set_option linter.unusedVariables false
set_option linter.unusedSimpArgs false
namespace Go.Proofs.Ytijancajlmneeaa.V
open Go.RowKit Go.Proofs.YtijancajlmneeaaW.PrintWords Go.Proofs.YtijancajlmneeaaW.PrintLast Go.Proofs.YtijancajlmneeaaW.PrintMore
theorem neqE_run (a b c d : Int) (w : World) : (binOp .neq 28 (.agg #[.int .u64 a, .int .i64 b]) (.agg #[.int .u64 c, .int .i64 d])).run Try.prog w = .ok (.bool (!(a == c && (b == d)))) w := by
 have h := eqA28 9998 w a c b d
 simp only [binOp]
 simp [Op.equal, Op.maxDepth, h]
theorem neqE_same (a b : Int) (w : World) : (binOp .neq 28 (.agg #[.int .u64 a, .int .i64 b]) (.agg #[.int .u64 a, .int .i64 b])).run Try.prog w = .ok (.bool false) w := by
 rw [neqE_run]; simp
end Go.Proofs.Ytijancajlmneeaa.V
end
section
set_option linter.unusedVariables false
set_option linter.unusedSimpArgs false
namespace Go.Proofs.Ytijancajlmneeaa.V
open Go.RowKit Go.Proofs.YtijancajlmneeaaW.PrintWords Go.Proofs.YtijancajlmneeaaW.PrintLast Go.Proofs.YtijancajlmneeaaW.PrintMore
attribute [local go_sem] max2_int min2_int max_two min_two max_three min_three max_four min_four
theorem firsts_min {k n : Nat} {es : List E} (hn : es.length = n) : firsts (k : Int) es = (sortE es).take (min (k + 1) n) := by
 unfold firsts
 subst hn
 rcases Nat.lt_or_ge k es.length with h | h
 · rw [clampN_mid (by omega) (by omega), Nat.min_eq_left (by omega), Int.toNat_natCast]
 · have : clampN (k : Int) es.length = es.length := by
    rcases Nat.lt_or_ge es.length k with h2 | h2
    · exact clampN_high (by omega)
    · rw [clampN_mid (by omega) (by omega), Int.toNat_natCast]; omega
   rw [this, Nat.min_eq_right (by omega), List.take_of_length_le (by rw [sortE_length]; omega), List.take_of_length_le (by rw [sortE_length]; exact Nat.le_refl _)]
theorem sortedTake {es : List E} (n : Nat) : SortedE ((sortE es).take n) := (sortE_sorted es).sublist (List.take_sublist _ _)
set_option maxRecDepth 100000 in
set_option maxHeartbeats 4000000 in
theorem sharedDraws_walk (x y : Int) (w : World) :
 Calls Try.prog 5 #[.int .i64 x, .int .i64 y] w fun e w' => e = .returned (.bool true) ∧ Below w.heap.size w w' := by
 have hx := and_maskL x 255 (by omega)
 rw [show ((255 : Nat) : Int) = 255 from rfl] at hx
 obtain ⟨z, hz⟩ : ∃ z : Int, bits BinOp.and IntKind.i64 x 255 = z := ⟨_, rfl⟩
 rw [hz] at hx
 obtain ⟨hz0, hz1⟩ := hx
 obtain ⟨n0, hn, hn2⟩ : ∃ n : Nat, z.tmod 40 = (n : Int) ∧ n < 40 := ⟨(z.tmod 40).toNat, by rw [Int.tmod_eq_emod_of_nonneg hz0]; have := Int.emod_nonneg z (b := 40) (by omega); omega, by rw [Int.tmod_eq_emod_of_nonneg hz0]; have := Int.emod_lt_of_pos z (b := 40) (by omega); omega⟩
 have hn3 : z % 40 = (n0 : Int) := by rw [← Int.tmod_eq_emod_of_nonneg hz0]; exact hn
 have hy := and_maskL y 15 (by omega)
 rw [show ((15 : Nat) : Int) = 15 from rfl] at hy
 obtain ⟨k, hk⟩ : ∃ k : Nat, bits BinOp.and IntKind.i64 y 15 = (k : Int) := ⟨(bits BinOp.and IntKind.i64 y 15).toNat, by omega⟩
 have hk15 : k ≤ 15 := by omega
 clear hy
 go_enter Try.func5, Try.ntmps5
 go_wp2_with fail
 refine (snew_ok w).mono ?_
 rintro q w1 ⟨rfl, hk1⟩
 have HK1 := Aside0.mk hk1
 clear hk1
 go_wp2_with fail
 clear hz hn hn3 hk
 go_loopw [6] (fun i wr => ∃ (m : Nat) (v : Value) (bs : List Bk) (es : List E), i = .int .i64 m ∧ m ≤ n0 + 1 ∧ Aside0 (es.length = m ∧ bs.length ≤ m) ∧ Aside0 (SOk w wr w.heap.size (m : Int) v bs es)) (fun i _ => n0 + 1 - (intOf i).toNat)
 case atStart => exact ⟨0, _, _, [], rfl, Nat.zero_le _, ⟨rfl, Nat.zero_le _⟩, HK1⟩
 case round =>
  clear HK1
  obtain ⟨m, v, bs, es, rfl, hm, HES, HK⟩ := hrel
  have hbl := HES.out.2
  have hel : es.length ≤ 41 := by have := HES.out.1; omega
  by_cases hlt : m < n0 + 1
  · have hlt2 : (m : Int) < (n0 : Int) + 1 := by omega
    have s1 : IntKind.i64.wrap ((m : Int) * 29) = (m : Int) * 29 := IntWalk.i64_in _ (by omega)
    have s2 : ((m : Int) * 29).tmod 41 = (m : Int) * 29 % 41 := Int.tmod_eq_emod_of_nonneg (by omega)
    have s3 : IntKind.i64.wrap ((m : Int) * 29 % 41) = (m : Int) * 29 % 41 := IntWalk.i64_in _ (by omega)
    have s4 : IntKind.u64.wrap ((m : Int) * 29 % 41) = (m : Int) * 29 % 41 := IntWalk.u64_in _ (by omega)
    have HC := Aside0.mk (one_C (e := ⟨(m : Int) * 29 % 41, (m : Int) + 1⟩) (heap_alloc_new wr (.cells #[.int .u64 ((m : Int) * 29 % 41), .int .i64 ((m : Int) + 1)] 28)))
    have HK2 := Aside0.mk (HK.out.below (below_alloc (Below.refl wr.heap.size wr) (.cells #[.int .u64 ((m : Int) * 29 % 41), .int .i64 ((m : Int) + 1)] 28)))
    have HBD := Aside0.mk (show (0 : Int) ≤ (m : Int) ∧ (m : Int) ≤ 1000000 ∧ bs.length ≤ 900 ∧ es.length + 1 ≤ 1000000 by omega)
    go_wp2_with fail
    refine (sadd_okN HK2.out (some ⟨wr.heap.size, 0, none⟩) 1 1 [(⟨(m : Int) * 29 % 41, (m : Int) + 1⟩ : E)] rfl ⟨HBD.out.1, HBD.out.2.1⟩ HC.out (by simp) (by simp) HBD.out.2.2.1 HBD.out.2.2.2).mono ?_
    rintro q w2 ⟨rfl, ⟨v2, hk2⟩, _⟩
    have HK3 := Aside0.mk hk2
    have HE3 := Aside0.mk (show ([(⟨(m : Int) * 29 % 41, (m : Int) + 1⟩ : E)] ++ es).length = m + 1 ∧ (addL [(⟨(m : Int) * 29 % 41, (m : Int) + 1⟩ : E)] bs).length ≤ m + 1 by
     have h1 := addS_len bs.length (mkB [(⟨(m : Int) * 29 % 41, (m : Int) + 1⟩ : E)]) bs
     refine ⟨by rw [List.length_append, HES.out.1]; simp; omega, ?_⟩
     show (addS _ _ _).length ≤ _
     omega)
    clear hk2 s1 s2 s3 s4
    go_wp2
    go_roundw
    case rel => exact ⟨m + 1, v2, _, _, by go_num, by omega, HE3, HK3⟩
    case measure => simp [intOf]; omega
  · obtain rfl : m = n0 + 1 := by omega
    have hlt2 : ¬ ((n0 : Int) + 1 < (n0 : Int) + 1) := by omega
    obtain ⟨L, hL⟩ : ∃ L, L = (sortE (allB bs)).take (min (k + 1) (n0 + 1)) := ⟨_, rfl⟩
    obtain ⟨c, hc⟩ : ∃ c, c = min (k + 1) (n0 + 1) := ⟨_, rfl⟩
    have hcnt : (allB bs).length = n0 + 1 := by rw [HK.out.cnt]; exact HES.out.1
    have hLl : L.length = c := by rw [hL, hc, List.length_take, sortE_length, hcnt]; omega
    have hcb : 0 < c ∧ c ≤ 40 ∧ c ≤ n0 + 1 := by omega
    have HF := Aside0.mk (show firsts (k : Int) (allB bs) = L by rw [hL]; exact firsts_min hcnt)
    have HC1 := Aside0.mk (show (sortE (allB bs)).take (clampN (c : Int) (allB bs).length) = L by rw [hL, ← hc, clampN_mid (by omega) (by omega), Int.toNat_natCast])
    have HLS := Aside0.mk (show SortedE L by rw [hL]; exact sortedTake _)
    have HAL := Aside0.mk (show (sortE (allB bs)).take c = L ∧ (sortE (allB bs)).length = n0 + 1 by rw [hL, hc, sortE_length]; exact ⟨rfl, hcnt⟩)
    have HKB := Aside0.mk (show bs.length ≤ 1000 ∧ (allB bs).length ≤ 1000000 by omega)
    clear hlt hm hel hbl hL hcnt
    go_upto_region 9 with fail
    go_cut [7] (fun s7 wx => s7 = .int .i64 c ∧ Aside0 (wx = wr))
    case first =>
     by_cases h : n0 + 1 < k + 1
     · have e1 : c = n0 + 1 := by omega
       have h1 : (n0 : Int) + 1 < (k : Int) + 1 := by omega
       have HE := Aside0.mk e1
       clear hc e1 hcb hLl h
       go_wp2_with fail
       go_meet
       exact ⟨by rw [HE.out]; first | rfl | push_cast; rfl, ⟨rfl⟩⟩
     · have e1 : c = k + 1 := by omega
       have h1 : ¬ ((n0 : Int) + 1 < (k : Int) + 1) := by omega
       have HE := Aside0.mk e1
       clear hc e1 hcb hLl h
       go_wp2_with fail
       go_meet
       exact ⟨by rw [HE.out]; first | rfl | push_cast; rfl, ⟨rfl⟩⟩
    case rest =>
     obtain ⟨rfl, HWC⟩ := hcut
     have hwc := HWC.out.symm
     subst hwc
     clear HWC hc
     subst hLl
     go_wp2_with fail
     refine (sh_first w.heap.size w.heap.size _ v bs (L.length : Int) _ HK.out.hat HKB.out.1 HKB.out.2).mono ?_
     rintro q w2 ⟨v2, rfl, hv2, hb2⟩
     rw [HC1.out] at hv2
     obtain ⟨A2, c2, rfl⟩ := Kd.V_slice hv2
     have HV2 := Aside0.mk (Kd.V_reads' hv2)
     have HK2 := Aside0.mk (HK.out.below hb2)
     have HSR := Aside0.mk (show vergerref5_Sorted.f 1000 L = some true by rw [refsorted_told 1000 L (by omega) (by omega), okTo_sorted HLS.out])
     have HLN := Aside0.mk (show L ≠ [] from fun e => by rw [e] at hcb; simp at hcb)
     have hneq := fun (a b : Int) (W : World) => neqE_same a b W
     clear hv2 hb2
     go_wp2_with fail
     refine (vergerref5_Sorted.calls 1000 A2 c2 L true _ HV2.out.2.2 HV2.out.2.1 HSR.out).mono ?_
     rintro q w3 ⟨rfl, hb3⟩
     have HC3 := Aside0.mk (Kd.C_below HV2.out.2.2 hb3)
     have HK3 := Aside0.mk (HK2.out.below hb3)
     clear hb3
     have hw2 : IntKind.i64.wrap (2 * (L.length : Int)) = 2 * (L.length : Int) := IntWalk.i64_in _ (by omega)
     go_wp2_with fail
     go_loopw [9] (fun s9 wr => ∃ d : Nat, s9 = .int .i64 d ∧ d ≤ 2 * L.length ∧ Aside0 (Below w3.heap.size w3 wr)) (fun d _ => 2 * L.length - (intOf d).toNat)
     case atStart => exact ⟨0, rfl, Nat.zero_le _, ⟨Below.refl _ _⟩⟩
     case round =>
      obtain ⟨d, rfl, hd, HB⟩ := hrel
      have HK4 := Aside0.mk (HK3.out.below HB.out)
      have HC4 := Aside0.mk (Kd.C_below HC3.out HB.out)
      by_cases hlt : d < 2 * L.length
      · obtain ⟨r, hr⟩ : ∃ r, d % L.length = r := ⟨_, rfl⟩
        have hrl : r < L.length := by rw [← hr]; exact Nat.mod_lt _ (by omega)
        obtain ⟨e, he⟩ : ∃ e, L.getD r ⟨0, 0⟩ = e := ⟨_, rfl⟩
        have HDR := Aside0.mk (show drawnE (firsts (k : Int) (allB bs)) d = (.agg #[.int .u64 e.f0, .int .i64 e.f1], true) by rw [HF.out]; unfold drawnE; rw [if_neg HLN.out, hr, he])
        have r1 : (d : Int).tmod (L.length : Int) = (r : Int) := by rw [Int.tmod_eq_emod_of_nonneg (by omega), ← hr]; rfl
        have r2 : (d : Int) % (L.length : Int) = (r : Int) := by rw [← hr]; rfl
        have r4 : ¬ (L.length = 0) := by omega
        have r5 : ¬ L = [] := HLN.out
        have r6 : ((L.length : Int) == 0) = false := by rw [beq_eq_false_iff_ne]; omega
        have s2 : IntKind.i64.wrap (r : Int) = (r : Int) := IntWalk.i64_in _ (by omega)
        have s3 : IntKind.u64.wrap (d : Int) = (d : Int) := IntWalk.u64_in _ (by omega)
        have hlt2 : (d : Int) < 2 * (L.length : Int) := by omega
        have hri : (r : Int) < (L.length : Int) := by omega
        have hri0 : (0 : Int) ≤ (r : Int) := by omega
        have HDB := Aside0.mk (show d < 18446744073709551616 by omega)
        have HEE := Aside0.mk he
        clear hr he
        go_wp2_with fail
        refine (sh_cand w.heap.size w.heap.size _ v bs (k : Int) d _ HK4.out.hat HDB.out HKB.out.1 HKB.out.2).mono ?_
        rintro q w5 hp5
        unfold CandPost at hp5
        rw [HDR.out] at hp5
        obtain ⟨rfl, hb5⟩ := hp5
        have HB5 := Aside0.mk (below_step HB.out hb5)
        have HB6 := Aside0.mk (below_step hb5 (below_alloc (Below.refl w5.heap.size w5) (.cells #[.int .u64 e.f0, .int .i64 e.f1] 28)))
        have HB7 := Aside0.mk (below_step HB5.out (below_alloc (Below.refl w5.heap.size w5) (.cells #[.int .u64 e.f0, .int .i64 e.f1] 28)))
        have hx := heap_alloc_new w5 (.cells #[.int .u64 e.f0, .int .i64 e.f1] 28)
        have x0 := (blk_cell hx 0).trans rfl
        have x1 := (blk_cell hx 1).trans rfl
        obtain ⟨ad, e1, y0, y1⟩ := at_T28 (Kd.C_below HC4.out HB6.out) (r : Int) (by omega) (by omega)
        subst e1
        have hrd : rd_T28 L (r : Int) = e := by unfold rd_T28; rw [Int.toNat_natCast]; exact HEE.out
        rw [Int.toNat_natCast, hrd] at y0 y1
        clear hb5 hx hrd
        go_wp2
        go_quiet (fail)
        go_wp2
        go_roundw
        case rel => exact ⟨d + 1, by go_num, by omega, ⟨pw_below_drewN HB7.out _⟩⟩
        case measure => simp [intOf]; omega
      · obtain rfl : d = 2 * L.length := by omega
        have hlt2 : ¬ ((((2 * L.length : Nat)) : Int) < 2 * (L.length : Int)) := by omega
        have hlt3 : ¬ (2 * (L.length : Int) < 2 * (L.length : Int)) := by omega
        clear hlt hd
        go_wp2_with fail
        refine (sh_all w.heap.size w.heap.size _ v bs _ HK4.out.hat HKB.out.1 HKB.out.2).mono ?_
        rintro q w5 ⟨v5, rfl, hv5, hb5⟩
        obtain ⟨A5, c5, rfl⟩ := Kd.V_slice hv5
        have HV5 := Aside0.mk (Kd.V_reads' hv5)
        have HC5 := Aside0.mk (Kd.C_below HC4.out hb5)
        have HK5 := Aside0.mk (HK4.out.below hb5)
        have hl5 := HV5.out.2.1
        have hle5 := HAL.out.2
        have HT5 := Aside0.mk (show Kd.C k28 w5 A5 L.length L by
         have := Kd.C_take HV5.out.2.2 (m := L.length) (by omega)
         rwa [HAL.out.1] at this)
        have HL5 := Aside0.mk hle5
        rw [hle5] at hl5 ⊢
        have t1 : L.length ≤ c5 := by omega
        have t2 : ((n0 + 1 : Nat) : Int) = (n0 : Int) + 1 := by omega
        clear hv5 hb5 hle5
        go_wp2_with fail
        refine (vergerref5_Same.calls 1000 _ _ L _ _ L true _ HT5.out t1 HC5.out HV2.out.2.1 (same_told 1000 L (by omega) (by omega))).mono ?_
        rintro q w6 ⟨rfl, ⟨nd, rfl⟩⟩
        have HK6 := Aside0.mk (HK5.out.drewN nd)
        go_wp2_with fail
        refine (awake8 _).mono ?_
        rintro q w7 ⟨rfl, hb7⟩
        have HB7 := Aside0.mk (below_step HK6.out.bel hb7)
        clear hb7
        go_wp2
        go_ret
        exact ⟨rfl, HB7.out⟩
end Go.Proofs.Ytijancajlmneeaa.V
end
section
set_option linter.unusedVariables false
set_option linter.unusedSimpArgs false
namespace Go.Proofs.Ytijancajlmneeaa.V
open Go.RowKit Go.Proofs.YtijancajlmneeaaW.PrintWords Go.Proofs.YtijancajlmneeaaW.PrintLast Go.Proofs.YtijancajlmneeaaW.PrintMore
def vergerlaw8_SharedDraws.f (a0 : Int) (a1 : Int) : Option Bool := some true
theorem vergerlaw8_SharedDraws.calls (a0 : Int) (a1 : Int) (r : Bool) (w : World)  (h : vergerlaw8_SharedDraws.f a0 a1 = some r) :
 Calls Try.prog 5 #[.int .i64 a0, .int .i64 a1] w fun e w' => e = .returned (.bool r) ∧ Below w.heap.size w w' := by
 obtain rfl := Option.some.inj h
 exact sharedDraws_walk a0 a1 w
theorem SharedDraws_pure (a0 : Int) (a1 : Int) {P0 P1 : Prop} (_ : P0) (_ : P1) : vergerlaw8_SharedDraws.f a0 a1 = some true := rfl
end Go.Proofs.Ytijancajlmneeaa.V
end
