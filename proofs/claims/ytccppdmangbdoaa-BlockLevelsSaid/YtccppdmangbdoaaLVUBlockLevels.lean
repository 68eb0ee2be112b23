-- a text of this work, without what this claim doesn't use (wip/shake.py)
import Derived.Test.YtccppdmangbdoaaLVPentry1
import Derived.Test.YtccppdmangbdoaaLVPentry
import Derived.Test.YtccppdmangbdoaaLVP5T
import Derived.Test.YtccppdmangbdoaaLVPblockb
import Derived.Test.YtccppdmangbdoaaLVXGrow
import Derived.Test.YtccppdmangbdoaaLVPblock
import Derived.Test.YtccppdmangbdoaaLVPvergerlaw6b
import Derived.Laws.Bits64b
import Derived.Test.YtccppdmangbdoaaLVPBlockLevelsLb
section
set_option linter.unusedVariables false
set_option linter.unusedSimpArgs false
namespace Go.Proofs.Ytccppdmangbdoaa.V
open Go.RowKit Go.Proofs.YtccppdmangbdoaaW.PrintWords Go.Proofs.YtccppdmangbdoaaW.PrintLast Go.Proofs.YtccppdmangbdoaaW.PrintMore
def downAt (l : List E) (j : Nat) : Bool := ltE (l.getD (j + 1) z31) (l.getD j z31)
def okTo (l : List E) : Nat → Bool
  | 0 => true
  | n + 1 => okTo l n && !downAt l n
theorem okTo_iff (l : List E) (n : Nat) : okTo l n = true ↔ ∀ j, j < n → downAt l j = false := by
 induction n with
 | zero => simp [okTo]
 | succ n ih =>
  simp only [okTo, Bool.and_eq_true, ih, Bool.not_eq_true']
  constructor
  · intro h j hj
    rcases Nat.lt_succ_iff_lt_or_eq.1 hj with h1 | h1
    · exact h.1 j h1
    · subst h1; exact h.2
  · intro h
    exact ⟨fun j hj => h j (by omega), h n (by omega)⟩
theorem issorted_loop (l : List E) (hl : l.length < 1000000000) : ∀ (i k : Nat), i < l.length → i + 4 ≤ k → api_Entry_46.l0 k l (i : Int) = some (okTo l i) := by
 intro i
 induction i with
 | zero =>
  intro k hi hk
  obtain ⟨k, rfl, _⟩ := succ_of (show 0 < k by omega)
  simp only [api_Entry_46.l0]
  rw [if_neg (by omega)]
  rfl
 | succ i ih =>
  intro k hi hk
  obtain ⟨k, rfl, _⟩ := succ_of (show 0 < k by omega)
  have h0 : ((i + 1 : Nat) : Int) > 0 := by omega
  have h1 : (0 : Int) ≤ ((i + 1 : Nat) : Int) := by omega
  have h2 : ((i + 1 : Nat) : Int) < (l.length : Int) := by omega
  have hw : wrap64 (((i + 1 : Nat) : Int) - 1) = (i : Int) := by rw [wsub1 (by omega) (by omega)]; omega
  have h3 : (0 : Int) ≤ (i : Int) := by omega
  have h4 : (i : Int) < (l.length : Int) := by omega
  simp only [api_Entry_46.l0, if_pos h0, if_pos h1, if_pos h2, hw, if_pos h3, if_pos h4, compare_told k (show 3 ≤ k by omega), Option.bind_some, rd_nat]
  by_cases hc : downAt l i = true
  · rw [if_pos ((cmpE_neg _ _).2 hc)]
    simp only [okTo, hc]
    simp
  · rw [if_neg (fun h => hc ((cmpE_neg _ _).1 h)), ih k (by omega) (by omega)]
    simp only [okTo]
    simp [hc]
theorem issorted_told (k : Nat) (l : List E) (hl : l.length < 1000000000) (hk : l.length + 4 ≤ k) : entry_Sorted.f k l = some (okTo l (l.length - 1)) := by
 unfold entry_Sorted.f api_Entry_46.f
 by_cases hn : l.length = 0
 · rw [hn]
   obtain ⟨k, rfl, _⟩ := succ_of (show 0 < k by omega)
   have hw : wrap64 (((0 : Nat) : Int) - 1) = -1 := wrap_id (by omega) (by omega)
   rw [hw]
   simp [api_Entry_46.l0, okTo]
 · rw [wsub1 (by omega) (by omega), issorted_loop l hl (l.length - 1) k (by omega) (by omega)]
   rfl
theorem okTo_sorted {l : List E} (h : SortedE l) : okTo l (l.length - 1) = true := by
 rw [okTo_iff]
 intro j hj
 unfold downAt
 have h1 : j + 1 < l.length := by omega
 have h2 : j < l.length := by omega
 simp only [List.getD_eq_getElem?_getD, List.getElem?_eq_getElem h1, List.getElem?_eq_getElem h2, Option.getD_some]
 have := sorted_get h (show j < j + 1 by omega) (List.getElem?_eq_getElem h2) (List.getElem?_eq_getElem h1)
 simpa [leE] using this
theorem okTo_sorted' {l : List E} {n : Nat} (h : SortedE l) (hn : l.length = n) : okTo l (n - 1) = true := by subst hn; exact okTo_sorted h
end Go.Proofs.Ytccppdmangbdoaa.V
end
section
set_option linter.unusedVariables false
set_option linter.unusedSimpArgs false
namespace Go.Proofs.Ytccppdmangbdoaa.V
open Go.RowKit Go.Proofs.YtccppdmangbdoaaW.PrintWords Go.Proofs.YtccppdmangbdoaaW.PrintLast Go.Proofs.YtccppdmangbdoaaW.PrintMore
theorem concat_told (k : Nat) (hk : 10 ≤ k) (l m : List E) (hl : l.length + m.length < 1000000000) : api_Entry_40.f k [l, m] = some (l ++ m) := by
 obtain ⟨k, rfl⟩ : ∃ q, k = q + 10 := ⟨k - 10, by omega⟩
 have r0 : rd_L5 [l, m] 0 = l := rfl
 have r1 : rd_L5 [l, m] 1 = m := rfl
 have e1 : wrap64 (0 + 1) = 1 := wrap_id (by omega) (by omega)
 have e2 : wrap64 (1 + 1) = 2 := wrap_id (by omega) (by omega)
 have s1 : wrap64 (0 + (l.length : Int)) = (l.length : Int) := by rw [wrap_id (by omega) (by omega)]; omega
 have s2 : wrap64 ((l.length : Int) + (m.length : Int)) = ((l.length + m.length : Nat) : Int) := wadd (by omega)
 have n1 : ¬ (l.length : Int) < 0 := by omega
 have n2 : ¬ ((l.length + m.length : Nat) : Int) < 0 := by omega
 have n3 : (0 : Int) < (([l, m] : List (List E)).length : Int) := by simp
 have n4 : (1 : Int) < (([l, m] : List (List E)).length : Int) := by simp
 have n5 : ¬ (2 : Int) < (([l, m] : List (List E)).length : Int) := by simp
 have z1 : (0 : Int) ≤ 1 := by decide
 have z0 : (0 : Int) ≤ 0 := by decide
 have g : api_Entry_48.f [] ((l.length + m.length : Nat) : Int) = some [] := if_pos ⟨rfl, by omega, by omega⟩
 have b1 : ([] : List E).length + l.length < 8796093022208 := by simp; omega
 have b2 : (([] : List E) ++ l).length + m.length < 8796093022208 := by simp; omega
 unfold api_Entry_40.f
 simp only [api_Entry_40.l0, if_pos n3, if_pos n4, if_neg n5, if_pos z0, if_pos z1, r0, r1, s1, if_neg n1, e1, s2, if_neg n2, e2, g, Option.bind_some, api_Entry_40.l1, if_pos b1, if_pos b2]
 simp
end Go.Proofs.Ytccppdmangbdoaa.V
end
section
set_option linter.unusedVariables false
set_option linter.unusedSimpArgs false
namespace Go.Proofs.Ytccppdmangbdoaa.V
open Go.RowKit Go.Proofs.YtccppdmangbdoaaW.PrintWords Go.Proofs.YtccppdmangbdoaaW.PrintLast Go.Proofs.YtccppdmangbdoaaW.PrintMore
def levGo : Nat → Nat → Int → Nat
  | 0, i, _ => i
  | d + 1, i, n => if (2 : Int) ^ i < n then levGo d (i + 1) n else i
def lev (n : Int) : Nat := levGo 62 0 n
theorem pow2_pos (i : Nat) : (0 : Int) < 2 ^ i := Int.pow_pos (by decide)
theorem pow2_lt : ∀ (i : Nat), i ≤ 62 → (2 : Int) ^ i ≤ 4611686018427387904 := by
 intro i hi
 have : (2 : Int) ^ i ≤ 2 ^ 62 := by
  have h : (2 : Nat) ^ i ≤ 2 ^ 62 := Nat.pow_le_pow_right (by decide) hi
  exact_mod_cast h
 simpa using this
theorem shl_one {i : Nat} (h : i ≤ 62) : shl .i64 1 (i : Int) = 2 ^ i := by
 unfold shl
 have h1 : min ((i : Int)).toNat IntKind.i64.bits = i := by show min _ 64 = i; omega
 rw [h1, Int.one_mul]
 have h2 := pow2_pos i
 have h3 := pow2_lt i h
 rw [i64_w]
 exact wrap_id (by omega) (by omega)
theorem level_loop (n : Int) : ∀ (d k i : Nat), i + d = 62 → d < k → block_Level.l0 k n (i : Int) = some ((levGo d i n : Nat) : Int) := by
 intro d
 induction d with
 | zero =>
  intro k i hd hk
  obtain ⟨k, rfl, _⟩ := succ_of hk
  simp only [block_Level.l0]
  rw [if_neg (by omega)]
  rfl
 | succ d ih =>
  intro k i hd hk
  obtain ⟨k, rfl, hk'⟩ := succ_of hk
  simp only [block_Level.l0]
  rw [if_pos (by omega), if_pos (by omega), shl_one (by omega), wrap_nat (by omega), ih k (i + 1) (by omega) (by omega)]
  simp only [levGo]
  by_cases hc : (2 : Int) ^ i < n
  · rw [if_pos hc, if_pos hc]
  · rw [if_neg hc, if_neg hc]
theorem level_told (k : Nat) (n : Int) (hk : 62 < k) : block_Level.f k n = some ((lev n : Nat) : Int) := level_loop n 62 k 0 (by omega) hk
theorem lev_le : ∀ (d i : Nat) (n : Int), levGo d i n ≤ i + d := by
 intro d
 induction d with
 | zero => intro i n; exact Nat.le_refl _
 | succ d ih =>
  intro i n
  simp only [levGo]
  split
  · exact Nat.le_trans (ih (i + 1) n) (by omega)
  · omega
def LevOk (n : Int) (L : Nat) : Prop := n ≤ 2 ^ L ∧ (0 < L → (2 : Int) ^ (L - 1) < n)
theorem levgo_ok : ∀ (d i : Nat) (n : Int), i + d = 62 → n ≤ 4611686018427387904 → (0 < i → (2 : Int) ^ (i - 1) < n) → LevOk n (levGo d i n) := by
 intro d
 induction d with
 | zero =>
  intro i n hd hn hi
  obtain rfl : i = 62 := by omega
  exact ⟨by simpa [levGo] using hn, by simpa [levGo] using hi⟩
 | succ d ih =>
  intro i n hd hn hi
  simp only [levGo]
  by_cases hc : (2 : Int) ^ i < n
  · rw [if_pos hc]
    exact ih (i + 1) n (by omega) hn (fun _ => by simpa using hc)
  · rw [if_neg hc]
    exact ⟨by omega, hi⟩
theorem lev_ok {n : Int} (hn : n ≤ 4611686018427387904) : LevOk n (lev n) := levgo_ok 62 0 n (by omega) hn (by omega)
theorem pow_mono {a b : Nat} (h : a ≤ b) : (2 : Int) ^ a ≤ 2 ^ b := by
 have : (2 : Nat) ^ a ≤ 2 ^ b := Nat.pow_le_pow_right (by decide) h
 exact_mod_cast this
theorem lev_unique {n : Int} {L M : Nat} (h : LevOk n L) (k : LevOk n M) : L = M := by
 rcases Nat.lt_trichotomy L M with h1 | h1 | h1
 · have := k.2 (by omega)
   have := pow_mono (a := L) (b := M - 1) (by omega)
   have := h.1
   omega
 · exact h1
 · have := h.2 (by omega)
   have := pow_mono (a := M) (b := L - 1) (by omega)
   have := k.1
   omega
theorem lev_62 (n : Int) : lev n ≤ 62 := by have := lev_le 62 0 n; unfold lev; omega
theorem sort6_some {l : List E} (h : l.length < 1000000000) : entry_Sort.f l = some (sortE l) := if_pos h
theorem of_told (k : Nat) (l : List E) (hl : l.length < 1000000000) (hk : 62 < k) : block_Of.f k l = some (((lev (l.length : Int) : Nat) : Int), sortE l) := by
 unfold block_Of.f
 rw [level_told k _ hk]
 simp only [Option.bind_some]
 rw [sort6_some hl]
 rfl
theorem blockok_told (k : Nat) (L : Int) (l : List E) (hl : l.length < 1000000000) (hk : l.length + 64 ≤ k) : block_Block_Ok.f k L l = some (decide (L = ((lev (l.length : Int) : Nat) : Int)) && okTo l (l.length - 1)) := by
 have h62 := lev_62 (l.length : Int)
 unfold block_Block_Ok.f
 rw [level_told k _ (by omega)]
 simp only [Option.bind_some]
 rw [issorted_told k l hl (by omega)]
 simp only [Option.bind_some]
 by_cases h0 : L ≥ 0
 · rw [if_pos h0]
   by_cases h1 : L ≤ 62
   · rw [if_pos h1]
     by_cases h2 : L = ((lev (l.length : Int) : Nat) : Int)
     · rw [if_pos h2, decide_eq_true h2, Bool.true_and]
     · rw [if_neg h2, decide_eq_false h2, Bool.false_and]
   · rw [if_neg h1, decide_eq_false (by omega), Bool.false_and]
 · rw [if_neg h0, decide_eq_false (by omega), Bool.false_and]
theorem blockok_of (k : Nat) (l : List E) (hl : l.length < 1000000000) (hk : l.length + 64 ≤ k) : block_Block_Ok.f k ((lev (l.length : Int) : Nat) : Int) (sortE l) = some true := by
 have hs := sortE_length l
 rw [blockok_told k _ _ (by omega) (by omega), hs, okTo_sorted' (sortE_sorted l) hs]
 simp
theorem min_told (L : Int) (l : List E) : block_Block_Min.f L l = some (match l with | [] => (0, 0, false) | a :: _ => (a.f0, a.f1, true)) := by
 unfold block_Block_Min.f
 cases l with
 | nil => rfl
 | cons a t =>
  have h1 : ¬ ((a :: t).length : Int) = 0 := by simp; omega
  have h2 : 0 < ((a :: t).length : Int) := by simp
  rw [if_neg h1, if_pos h2]
  rfl
theorem blockmerge_told (k : Nat) (L M : Int) (x y : List E) (hl : x.length + y.length < 1000000000) (hk : 62 < k) : block_Merge.f k L x M y = some (((lev ((x.length + y.length : Nat) : Int) : Nat) : Int), sortE (x ++ y)) := by
 unfold block_Merge.f
 rw [concat_told k (by omega) x y hl]
 simp only [Option.bind_some]
 rw [of_told k _ (by simpa using hl) hk, List.length_append]
 rfl
theorem awake6 (k : Nat) (hk : 70 ≤ k) : vergerlaw6_awake.f k = some true := by
 have hs : sortE [(⟨3, 1⟩ : E), ⟨1, 2⟩, ⟨2, 3⟩] = [⟨1, 2⟩, ⟨2, 3⟩, ⟨3, 1⟩] := sortE_eq (by unfold SortedE; simp [leE_iff]) (by
  exact ((List.Perm.swap (⟨2, 3⟩ : E) ⟨3, 1⟩ []).cons ⟨1, 2⟩).symm.trans (List.Perm.swap (⟨3, 1⟩ : E) ⟨1, 2⟩ [⟨2, 3⟩] |>.trans (List.Perm.refl _)))
 have ho := of_told k [(⟨3, 1⟩ : E), ⟨1, 2⟩, ⟨2, 3⟩] (by decide) (by omega)
 have hok := blockok_of k [(⟨3, 1⟩ : E), ⟨1, 2⟩, ⟨2, 3⟩] (by decide) (by simp; omega)
 rw [hs] at ho hok
 have l3 : ((lev (([(⟨3, 1⟩ : E), ⟨1, 2⟩, ⟨2, 3⟩].length : Nat) : Int) : Nat) : Int) = 2 := by decide
 rw [l3] at ho hok
 have l5 : ((lev 5 : Nat) : Int) = 3 := by decide
 unfold vergerlaw6_awake.f
 rw [ho]
 simp only [Option.bind_some, min_told]
 rw [level_told k 5 (by omega), l5]
 simp only [Option.bind_some]
 rw [if_pos (by first | rfl | trivial), if_pos (by first | rfl | trivial), hok]
 rfl
theorem and_mask (x : Int) (m : Nat) (hm : m < 4611686018427387904) : 0 ≤ Go.bits .and .i64 x (m : Int) ∧ Go.bits .and .i64 x (m : Int) ≤ (m : Int) := by
 have h2 : (BitVec.ofInt 64 (m : Int)).toNat = m := by
  rw [BitVec.ofInt_natCast, BitVec.toNat_ofNat]; exact Nat.mod_eq_of_lt (by omega)
 have h3 : ((BitVec.ofInt 64 x) &&& (BitVec.ofInt 64 (m : Int))).toNat ≤ m := by
  rw [BitVec.toNat_and, h2]
  exact Nat.and_le_right
 show 0 ≤ IntKind.i64.wrap ((BitVec.ofInt 64 x &&& BitVec.ofInt 64 (m : Int)).toNat : Int) ∧ IntKind.i64.wrap ((BitVec.ofInt 64 x &&& BitVec.ofInt 64 (m : Int)).toNat : Int) ≤ _
 rw [i64_w]
 rw [wrap_id (by omega) (by omega)]
 omega
end Go.Proofs.Ytccppdmangbdoaa.V
end
section
set_option linter.unusedVariables false
set_option linter.unusedSimpArgs false
namespace Go.Proofs.Ytccppdmangbdoaa.V
open Go.RowKit Go.Proofs.YtccppdmangbdoaaW.PrintWords Go.Proofs.YtccppdmangbdoaaW.PrintLast Go.Proofs.YtccppdmangbdoaaW.PrintMore
theorem lev_double {a b : Nat} (ha : 0 < a) (hb : 0 < b) (ha2 : a ≤ 1000) (hb2 : b ≤ 1000) (h : lev (a : Int) = lev (b : Int)) : lev ((a + b : Nat) : Int) = lev (a : Int) + 1 := by
 have h1 := lev_ok (n := (a : Int)) (by omega)
 have h2 := lev_ok (n := (b : Int)) (by omega)
 rw [← h] at h2
 have h3 := lev_ok (n := ((a + b : Nat) : Int)) (by omega)
 refine lev_unique h3 ⟨?_, fun _ => ?_⟩
 · rw [Int.pow_succ]
   have := h1.1
   have := h2.1
   omega
 · rw [Nat.add_sub_cancel]
   rcases Nat.eq_zero_or_pos (lev (a : Int)) with h0 | h0
   · rw [h0]
     show (1 : Int) < _
     omega
   · have e := h1.2 h0
     have f := h2.2 h0
     have h4 : (2 : Int) ^ lev (a : Int) = 2 ^ (lev (a : Int) - 1) * 2 := by rw [← Int.pow_succ]; congr 1; omega
     omega
theorem levels_j3 (k : Nat) (p q : List E) (hp : 0 < p.length) (hq : 0 < q.length) (hp2 : p.length ≤ 100) (hq2 : q.length ≤ 100) (hk : 80 ≤ k) (m : List E) :
 vergerlaw6_BlockLevels.j3 k false ((lev (p.length : Int) : Nat) : Int) (sortE p) ((lev (q.length : Int) : Nat) : Int) (sortE q) ((lev ((p.length + q.length : Nat) : Int) : Nat) : Int) m = some true := by
 obtain ⟨k, rfl, _⟩ := succ_of (show 79 < k by omega)
 simp only [vergerlaw6_BlockLevels.j3]
 rw [if_neg (by simp), awake6 k (by omega)]
 by_cases h : ((lev (p.length : Int) : Nat) : Int) = ((lev (q.length : Int) : Nat) : Int)
 · have h62 := lev_62 (p.length : Int)
   rw [if_pos h, lev_double hp hq (by omega) (by omega) (by omega), wrap_nat (by omega), if_pos (by first | rfl | trivial)]
   rfl
 · rw [if_neg h]
   rfl
theorem levels_l1 (a b : Nat) (p : List E) (ha : a = p.length) (ha0 : 0 < a) (hb0 : 0 < b) (ha1 : a ≤ 64) (hb1 : b ≤ 64) : ∀ (d k : Nat) (q : List E), b - q.length = d → q.length ≤ b → d + 300 ≤ k →
 vergerlaw6_BlockLevels.l1 k (a : Int) (b : Int) p q (q.length : Int) = some true := by
 intro d
 induction d with
 | zero =>
  intro k q hd hq hk
  obtain ⟨k, rfl, _⟩ := succ_of (show 0 < k by omega)
  have hs : (sortE (p ++ q)).length = p.length + q.length := by rw [sortE_length, List.length_append]
  have hpp := sortE_length p
  have hqq := sortE_length q
  simp only [vergerlaw6_BlockLevels.l1]
  rw [if_neg (by omega), of_told k p (by omega) (by omega)]
  simp only [Option.bind_some]
  rw [of_told k q (by omega) (by omega)]
  simp only [Option.bind_some]
  rw [blockmerge_told k _ _ _ _ (by omega) (by omega)]
  simp only [Option.bind_some]
  rw [blockok_of k p (by omega) (by omega)]
  simp only [Option.bind_some, if_true]
  rw [blockok_of k q (by omega) (by omega)]
  simp only [Option.bind_some, if_true]
  have hm : sortE (sortE p ++ sortE q) = sortE (p ++ q) := sortE_of_perm ((sortE_perm p).append (sortE_perm q))
  have ho := blockok_of k (p ++ q) (by rw [List.length_append]; omega) (by rw [List.length_append]; omega)
  rw [List.length_append] at ho
  rw [hm, hpp, hqq, ho]
  simp only [Option.bind_some, if_true]
  rw [hs, wadd (by omega), show (((p.length + q.length : Nat) : Int) != ((a + b : Nat) : Int)) = false by simp; omega]
  exact levels_j3 k p q (by omega) (by omega) (by omega) (by omega) (by omega) _
 | succ d ih =>
  intro k q hd hq hk
  obtain ⟨k, rfl, _⟩ := succ_of (show 0 < k by omega)
  simp only [vergerlaw6_BlockLevels.l1]
  rw [if_pos (by omega), if_pos (by omega), wrap_nat (by omega)]
  have := ih k (q ++ [⟨IntKind.u64.wrap (Int.tmod (wrap64 (5 * (q.length : Int))) 11), wrap64 (100 + (q.length : Int))⟩]) (by rw [List.length_append, List.length_singleton]; omega) (by rw [List.length_append, List.length_singleton]; omega) (by omega)
  rw [List.length_append, List.length_singleton] at this
  exact this
theorem levels_l0 (a b : Nat) (ha0 : 0 < a) (hb0 : 0 < b) (ha1 : a ≤ 64) (hb1 : b ≤ 64) : ∀ (d k : Nat) (p : List E), a - p.length = d → p.length ≤ a → d + 400 ≤ k →
 vergerlaw6_BlockLevels.l0 k (a : Int) (b : Int) p (p.length : Int) = some true := by
 intro d
 induction d with
 | zero =>
  intro k p hd hp hk
  obtain ⟨k, rfl, _⟩ := succ_of (show 0 < k by omega)
  simp only [vergerlaw6_BlockLevels.l0]
  rw [if_neg (by omega)]
  exact levels_l1 a b p (by omega) ha0 hb0 ha1 hb1 b k [] rfl (by simp) (by omega)
 | succ d ih =>
  intro k p hd hp hk
  obtain ⟨k, rfl, _⟩ := succ_of (show 0 < k by omega)
  simp only [vergerlaw6_BlockLevels.l0]
  rw [if_pos (by omega), if_pos (by omega), wrap_nat (by omega)]
  have := ih k (p ++ [⟨IntKind.u64.wrap (Int.tmod (wrap64 (7 * (p.length : Int))) 13), ((p.length + 1 : Nat) : Int)⟩]) (by rw [List.length_append, List.length_singleton]; omega) (by rw [List.length_append, List.length_singleton]; omega) (by omega)
  rw [List.length_append, List.length_singleton] at this
  exact this
theorem BlockLevels_pure (n a b : Int) {P Q R : Prop} (_ : P) (_ : Q) (_ : R) : ∃ k, vergerlaw6_BlockLevels.f k n a b = some true := by
 refine ⟨1000, ?_⟩
 have ma := and_mask a 63 (by omega)
 have mb := and_mask b 63 (by omega)
 have mn_ := and_mask n 255 (by omega)
 rw [show ((63 : Nat) : Int) = 63 from rfl] at ma mb
 rw [show ((255 : Nat) : Int) = 255 from rfl] at mn_
 have hj : vergerlaw6_BlockLevels.j0 1000 a b false = some true := by
  simp only [vergerlaw6_BlockLevels.j0]
  rw [if_neg (by simp)]
  generalize Go.bits .and .i64 a 63 = u at ma
  generalize Go.bits .and .i64 b 63 = v at mb
  rw [wrap_id (by omega) (by omega), wrap_id (by omega) (by omega)]
  obtain ⟨x, hx⟩ : ∃ x : Nat, u + 1 = (x : Int) := ⟨(u + 1).toNat, by omega⟩
  obtain ⟨y, hy⟩ : ∃ y : Nat, v + 1 = (y : Int) := ⟨(v + 1).toNat, by omega⟩
  rw [hx, hy]
  exact levels_l0 x y (by omega) (by omega) (by omega) (by omega) x 999 [] rfl (by simp) (by omega)
 unfold vergerlaw6_BlockLevels.f
 generalize Go.bits .and .i64 n 255 = u at mn_
 have t0 := Int.tmod_lt_of_pos u (b := 200) (by omega)
 have t1 := Int.tmod_nonneg (a := u) 200 (by omega)
 generalize Int.tmod u 200 = t at t0 t1
 rw [wrap_id (show -9223372036854775808 ≤ t + 1 by omega) (by omega), level_told 1000 _ (by omega)]
 simp only [Option.bind_some]
 have hok := lev_ok (n := t + 1) (by omega)
 have h62 := lev_62 (t + 1)
 generalize lev (t + 1) = L at hok h62
 rw [if_neg (by omega), if_pos (by omega), shl_one h62, if_neg (by have := hok.1; omega)]
 by_cases h : (L : Int) > 0
 · have hw : wrap64 ((L : Int) - 1) = ((L - 1 : Nat) : Int) := wsub1 (by omega) (by omega)
   rw [if_pos h, hw, if_pos (by omega), shl_one (by omega), decide_eq_false (by have := hok.2 (by omega); omega)]
   exact hj
 · rw [if_neg h]
   exact hj
end Go.Proofs.Ytccppdmangbdoaa.V
end
