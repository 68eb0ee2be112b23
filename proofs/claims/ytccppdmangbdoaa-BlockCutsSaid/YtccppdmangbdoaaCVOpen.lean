-- a text of this work, without what this claim doesn't use (wip/shake.py)
import Derived.Test.YtccppdmangbdoaaCVPentry1
import Derived.Test.YtccppdmangbdoaaCVPcmp
import Derived.Test.YtccppdmangbdoaaCVP5T
import Derived.Test.YtccppdmangbdoaaCVPslicesZb
import Derived.Test.YtccppdmangbdoaaCVXGrow
import Derived.Test.YtccppdmangbdoaaCVPblock
import Derived.Test.YtccppdmangbdoaaCVPblockb
import Derived.Test.YtccppdmangbdoaaCVPvergerlaw6b
import Derived.Laws.Bits64b
import Derived.Test.YtccppdmangbdoaaCVPBlockCutsLb
import Derived.Test.YtccppdmangbdoaaCWWords
import Derived.SizedLaws
import Derived.ChangeSlices
import Derived.WalkKit
import Derived.ProofKit
import Derived.OpenShut
import Derived.ShutString
import Derived.ChangeOld
import Derived.Below
import Derived.Deep.Slices
section
set_option linter.unusedVariables false
set_option linter.unusedSimpArgs false
namespace Go.Proofs.Ytccppdmangbdoaa.V
open Go.RowKit Go.Proofs.YtccppdmangbdoaaW.PrintWords Go.Proofs.YtccppdmangbdoaaW.PrintLast Go.Proofs.YtccppdmangbdoaaW.PrintMore
theorem same_loop (l : List E) (hl : l.length < 1000000000) : ∀ (d k i : Nat), l.length - i = d → i ≤ l.length → d < k → vergerref5_Same.l0 k l l (i : Int) = some true := by
 intro d
 induction d with
 | zero =>
  intro k i hd hi hk
  obtain ⟨k, rfl, _⟩ := succ_of hk
  simp only [vergerref5_Same.l0]
  rw [if_neg (by omega)]
 | succ d ih =>
  intro k i hd hi hk
  obtain ⟨k, rfl, hk'⟩ := succ_of hk
  have hz : (i : Int) < (l.length : Int) := by omega
  have h0 : (0 : Int) ≤ (i : Int) := by omega
  simp only [vergerref5_Same.l0, if_pos hz, if_pos h0, wrap_nat (show i ≤ 4611686018427387904 by omega)]
  rw [if_neg (by simp)]
  exact ih k (i + 1) (by omega) (by omega) (by omega)
theorem same_told (k : Nat) (l : List E) (hl : l.length < 1000000000) (hk : l.length < k) : vergerref5_Same.f k l l = some true := by
 unfold vergerref5_Same.f
 rw [if_pos rfl]
 exact same_loop l hl l.length k 0 (by omega) (by omega) hk
def downAt (l : List E) (j : Nat) : Bool := ltE (l.getD (j + 1) z31) (l.getD j z31)
def okTo (l : List E) : Nat → Bool
  | 0 => true
  | n + 1 => okTo l n && !downAt l n
theorem okTo_iff (l : List E) (n : Nat) : okTo l n = true ↔ ∀ j, j < n → downAt l j = false := by
 induction n with
 | zero => simp [okTo]
 | succ n ih =>
  simp only [okTo, Bool.and_eq_true, ih, Bool.not_eq_true']
  constructor
  · intro h j hj
    rcases Nat.lt_succ_iff_lt_or_eq.1 hj with h1 | h1
    · exact h.1 j h1
    · subst h1; exact h.2
  · intro h
    exact ⟨fun j hj => h j (by omega), h n (by omega)⟩
theorem issorted_loop (l : List E) (hl : l.length < 1000000000) : ∀ (i k : Nat), i < l.length → i + 4 ≤ k → api_Entry_46.l0 k l (i : Int) = some (okTo l i) := by
 intro i
 induction i with
 | zero =>
  intro k hi hk
  obtain ⟨k, rfl, _⟩ := succ_of (show 0 < k by omega)
  simp only [api_Entry_46.l0]
  rw [if_neg (by omega)]
  rfl
 | succ i ih =>
  intro k hi hk
  obtain ⟨k, rfl, _⟩ := succ_of (show 0 < k by omega)
  have h0 : ((i + 1 : Nat) : Int) > 0 := by omega
  have h1 : (0 : Int) ≤ ((i + 1 : Nat) : Int) := by omega
  have h2 : ((i + 1 : Nat) : Int) < (l.length : Int) := by omega
  have hw : wrap64 (((i + 1 : Nat) : Int) - 1) = (i : Int) := by rw [wsub1 (by omega) (by omega)]; omega
  have h3 : (0 : Int) ≤ (i : Int) := by omega
  have h4 : (i : Int) < (l.length : Int) := by omega
  simp only [api_Entry_46.l0, if_pos h0, if_pos h1, if_pos h2, hw, if_pos h3, if_pos h4, compare_told k (show 3 ≤ k by omega), Option.bind_some, rd_nat]
  by_cases hc : downAt l i = true
  · rw [if_pos ((cmpE_neg _ _).2 hc)]
    simp only [okTo, hc]
    simp
  · rw [if_neg (fun h => hc ((cmpE_neg _ _).1 h)), ih k (by omega) (by omega)]
    simp only [okTo]
    simp [hc]
theorem issorted_told (k : Nat) (l : List E) (hl : l.length < 1000000000) (hk : l.length + 4 ≤ k) : entry_Sorted.f k l = some (okTo l (l.length - 1)) := by
 unfold entry_Sorted.f api_Entry_46.f
 by_cases hn : l.length = 0
 · rw [hn]
   obtain ⟨k, rfl, _⟩ := succ_of (show 0 < k by omega)
   have hw : wrap64 (((0 : Nat) : Int) - 1) = -1 := wrap_id (by omega) (by omega)
   rw [hw]
   simp [api_Entry_46.l0, okTo]
 · rw [wsub1 (by omega) (by omega), issorted_loop l hl (l.length - 1) k (by omega) (by omega)]
   rfl
theorem okTo_sorted {l : List E} (h : SortedE l) : okTo l (l.length - 1) = true := by
 rw [okTo_iff]
 intro j hj
 unfold downAt
 have h1 : j + 1 < l.length := by omega
 have h2 : j < l.length := by omega
 simp only [List.getD_eq_getElem?_getD, List.getElem?_eq_getElem h1, List.getElem?_eq_getElem h2, Option.getD_some]
 have := sorted_get h (show j < j + 1 by omega) (List.getElem?_eq_getElem h2) (List.getElem?_eq_getElem h1)
 simpa [leE] using this
theorem okTo_sorted' {l : List E} {n : Nat} (h : SortedE l) (hn : l.length = n) : okTo l (n - 1) = true := by subst hn; exact okTo_sorted h
end Go.Proofs.Ytccppdmangbdoaa.V
end
section
set_option linter.unusedVariables false
set_option linter.unusedSimpArgs false
namespace Go.Proofs.Ytccppdmangbdoaa.V
open Go.RowKit Go.Proofs.YtccppdmangbdoaaW.PrintWords Go.Proofs.YtccppdmangbdoaaW.PrintLast Go.Proofs.YtccppdmangbdoaaW.PrintMore
theorem concat_told (k : Nat) (hk : 10 ≤ k) (l m : List E) (hl : l.length + m.length < 1000000000) : api_Entry_40.f k [l, m] = some (l ++ m) := by
 obtain ⟨k, rfl⟩ : ∃ q, k = q + 10 := ⟨k - 10, by omega⟩
 have r0 : rd_L5 [l, m] 0 = l := rfl
 have r1 : rd_L5 [l, m] 1 = m := rfl
 have e1 : wrap64 (0 + 1) = 1 := wrap_id (by omega) (by omega)
 have e2 : wrap64 (1 + 1) = 2 := wrap_id (by omega) (by omega)
 have s1 : wrap64 (0 + (l.length : Int)) = (l.length : Int) := by rw [wrap_id (by omega) (by omega)]; omega
 have s2 : wrap64 ((l.length : Int) + (m.length : Int)) = ((l.length + m.length : Nat) : Int) := wadd (by omega)
 have n1 : ¬ (l.length : Int) < 0 := by omega
 have n2 : ¬ ((l.length + m.length : Nat) : Int) < 0 := by omega
 have n3 : (0 : Int) < (([l, m] : List (List E)).length : Int) := by simp
 have n4 : (1 : Int) < (([l, m] : List (List E)).length : Int) := by simp
 have n5 : ¬ (2 : Int) < (([l, m] : List (List E)).length : Int) := by simp
 have z1 : (0 : Int) ≤ 1 := by decide
 have z0 : (0 : Int) ≤ 0 := by decide
 have g : api_Entry_48.f [] ((l.length + m.length : Nat) : Int) = some [] := if_pos ⟨rfl, by omega, by omega⟩
 have b1 : ([] : List E).length + l.length < 8796093022208 := by simp; omega
 have b2 : (([] : List E) ++ l).length + m.length < 8796093022208 := by simp; omega
 unfold api_Entry_40.f
 simp only [api_Entry_40.l0, if_pos n3, if_pos n4, if_neg n5, if_pos z0, if_pos z1, r0, r1, s1, if_neg n1, e1, s2, if_neg n2, e2, g, Option.bind_some, api_Entry_40.l1, if_pos b1, if_pos b2]
 simp
end Go.Proofs.Ytccppdmangbdoaa.V
end
section
set_option linter.unusedVariables false
set_option linter.unusedSimpArgs false
namespace Go.Proofs.Ytccppdmangbdoaa.V
open Go.RowKit Go.Proofs.YtccppdmangbdoaaW.PrintWords Go.Proofs.YtccppdmangbdoaaW.PrintLast Go.Proofs.YtccppdmangbdoaaW.PrintMore
def levGo : Nat → Nat → Int → Nat
  | 0, i, _ => i
  | d + 1, i, n => if (2 : Int) ^ i < n then levGo d (i + 1) n else i
def lev (n : Int) : Nat := levGo 62 0 n
theorem pow2_pos (i : Nat) : (0 : Int) < 2 ^ i := Int.pow_pos (by decide)
theorem pow2_lt : ∀ (i : Nat), i ≤ 62 → (2 : Int) ^ i ≤ 4611686018427387904 := by
 intro i hi
 have : (2 : Int) ^ i ≤ 2 ^ 62 := by
  have h : (2 : Nat) ^ i ≤ 2 ^ 62 := Nat.pow_le_pow_right (by decide) hi
  exact_mod_cast h
 simpa using this
theorem shl_one {i : Nat} (h : i ≤ 62) : shl .i64 1 (i : Int) = 2 ^ i := by
 unfold shl
 have h1 : min ((i : Int)).toNat IntKind.i64.bits = i := by show min _ 64 = i; omega
 rw [h1, Int.one_mul]
 have h2 := pow2_pos i
 have h3 := pow2_lt i h
 rw [i64_w]
 exact wrap_id (by omega) (by omega)
theorem level_loop (n : Int) : ∀ (d k i : Nat), i + d = 62 → d < k → block_Level.l0 k n (i : Int) = some ((levGo d i n : Nat) : Int) := by
 intro d
 induction d with
 | zero =>
  intro k i hd hk
  obtain ⟨k, rfl, _⟩ := succ_of hk
  simp only [block_Level.l0]
  rw [if_neg (by omega)]
  rfl
 | succ d ih =>
  intro k i hd hk
  obtain ⟨k, rfl, hk'⟩ := succ_of hk
  simp only [block_Level.l0]
  rw [if_pos (by omega), if_pos (by omega), shl_one (by omega), wrap_nat (by omega), ih k (i + 1) (by omega) (by omega)]
  simp only [levGo]
  by_cases hc : (2 : Int) ^ i < n
  · rw [if_pos hc, if_pos hc]
  · rw [if_neg hc, if_neg hc]
theorem level_told (k : Nat) (n : Int) (hk : 62 < k) : block_Level.f k n = some ((lev n : Nat) : Int) := level_loop n 62 k 0 (by omega) hk
theorem lev_le : ∀ (d i : Nat) (n : Int), levGo d i n ≤ i + d := by
 intro d
 induction d with
 | zero => intro i n; exact Nat.le_refl _
 | succ d ih =>
  intro i n
  simp only [levGo]
  split
  · exact Nat.le_trans (ih (i + 1) n) (by omega)
  · omega
theorem lev_62 (n : Int) : lev n ≤ 62 := by have := lev_le 62 0 n; unfold lev; omega
theorem sort6_some {l : List E} (h : l.length < 1000000000) : entry_Sort.f l = some (sortE l) := if_pos h
theorem of_told (k : Nat) (l : List E) (hl : l.length < 1000000000) (hk : 62 < k) : block_Of.f k l = some (((lev (l.length : Int) : Nat) : Int), sortE l) := by
 unfold block_Of.f
 rw [level_told k _ hk]
 simp only [Option.bind_some]
 rw [sort6_some hl]
 rfl
theorem blockok_told (k : Nat) (L : Int) (l : List E) (hl : l.length < 1000000000) (hk : l.length + 64 ≤ k) : block_Block_Ok.f k L l = some (decide (L = ((lev (l.length : Int) : Nat) : Int)) && okTo l (l.length - 1)) := by
 have h62 := lev_62 (l.length : Int)
 unfold block_Block_Ok.f
 rw [level_told k _ (by omega)]
 simp only [Option.bind_some]
 rw [issorted_told k l hl (by omega)]
 simp only [Option.bind_some]
 by_cases h0 : L ≥ 0
 · rw [if_pos h0]
   by_cases h1 : L ≤ 62
   · rw [if_pos h1]
     by_cases h2 : L = ((lev (l.length : Int) : Nat) : Int)
     · rw [if_pos h2, decide_eq_true h2, Bool.true_and]
     · rw [if_neg h2, decide_eq_false h2, Bool.false_and]
   · rw [if_neg h1, decide_eq_false (by omega), Bool.false_and]
 · rw [if_neg h0, decide_eq_false (by omega), Bool.false_and]
theorem blockok_of (k : Nat) (l : List E) (hl : l.length < 1000000000) (hk : l.length + 64 ≤ k) : block_Block_Ok.f k ((lev (l.length : Int) : Nat) : Int) (sortE l) = some true := by
 have hs := sortE_length l
 rw [blockok_told k _ _ (by omega) (by omega), hs, okTo_sorted' (sortE_sorted l) hs]
 simp
theorem min_told (L : Int) (l : List E) : block_Block_Min.f L l = some (match l with | [] => (0, 0, false) | a :: _ => (a.f0, a.f1, true)) := by
 unfold block_Block_Min.f
 cases l with
 | nil => rfl
 | cons a t =>
  have h1 : ¬ ((a :: t).length : Int) = 0 := by simp; omega
  have h2 : 0 < ((a :: t).length : Int) := by simp
  rw [if_neg h1, if_pos h2]
  rfl
theorem blockmerge_told (k : Nat) (L M : Int) (x y : List E) (hl : x.length + y.length < 1000000000) (hk : 62 < k) : block_Merge.f k L x M y = some (((lev ((x.length + y.length : Nat) : Int) : Nat) : Int), sortE (x ++ y)) := by
 unfold block_Merge.f
 rw [concat_told k (by omega) x y hl]
 simp only [Option.bind_some]
 rw [of_told k _ (by simpa using hl) hk, List.length_append]
 rfl
theorem clamp_told (n : Int) (m : Nat) : 0 ≤ mn (mx n 0) (m : Int) ∧ mn (mx n 0) (m : Int) ≤ (m : Int) := by
 unfold mn mx
 omega
def clampN (n : Int) (m : Nat) : Nat := (mn (mx n 0) (m : Int)).toNat
theorem clampN_le (n : Int) (m : Nat) : clampN n m ≤ m := by have := clamp_told n m; unfold clampN; omega
theorem cut_told (k : Nat) (L : Int) (x : List E) (n : Int) (hl : x.length < 1000000000) (hk : 62 < k) : block_Cut.f k L x n =
 some (((lev ((x.take (clampN n x.length)).length : Int) : Nat) : Int), sortE (x.take (clampN n x.length)), ((lev ((x.drop (clampN n x.length)).length : Int) : Nat) : Int), sortE (x.drop (clampN n x.length))) := by
 unfold block_Cut.f
 have h := clamp_told n x.length
 rw [if_pos h.1, if_pos h.2, of_told k _ (by rw [List.length_take]; omega) hk]
 simp only [Option.bind_some]
 rw [of_told k _ (by rw [List.length_drop]; omega) hk]
 rfl
theorem awake6 (k : Nat) (hk : 70 ≤ k) : vergerlaw6_awake.f k = some true := by
 have hs : sortE [(⟨3, 1⟩ : E), ⟨1, 2⟩, ⟨2, 3⟩] = [⟨1, 2⟩, ⟨2, 3⟩, ⟨3, 1⟩] := sortE_eq (by unfold SortedE; simp [leE_iff]) (by
  exact ((List.Perm.swap (⟨2, 3⟩ : E) ⟨3, 1⟩ []).cons ⟨1, 2⟩).symm.trans (List.Perm.swap (⟨3, 1⟩ : E) ⟨1, 2⟩ [⟨2, 3⟩] |>.trans (List.Perm.refl _)))
 have ho := of_told k [(⟨3, 1⟩ : E), ⟨1, 2⟩, ⟨2, 3⟩] (by decide) (by omega)
 have hok := blockok_of k [(⟨3, 1⟩ : E), ⟨1, 2⟩, ⟨2, 3⟩] (by decide) (by simp; omega)
 rw [hs] at ho hok
 have l3 : ((lev (([(⟨3, 1⟩ : E), ⟨1, 2⟩, ⟨2, 3⟩].length : Nat) : Int) : Nat) : Int) = 2 := by decide
 rw [l3] at ho hok
 have l5 : ((lev 5 : Nat) : Int) = 3 := by decide
 unfold vergerlaw6_awake.f
 rw [ho]
 simp only [Option.bind_some, min_told]
 rw [level_told k 5 (by omega), l5]
 simp only [Option.bind_some]
 rw [if_pos (by first | rfl | trivial), if_pos (by first | rfl | trivial), hok]
 rfl
theorem few_told (l : List E) : vergerlaw6_Few.f l = some (decide ((l.length : Int) ≤ 120)) := rfl
end Go.Proofs.Ytccppdmangbdoaa.V
end
section
set_option linter.unusedVariables false
set_option linter.unusedSimpArgs false
namespace Go.Proofs.Ytccppdmangbdoaa.V
open Go.RowKit Go.Proofs.YtccppdmangbdoaaW.PrintWords Go.Proofs.YtccppdmangbdoaaW.PrintLast Go.Proofs.YtccppdmangbdoaaW.PrintMore
theorem refless_rd (a b : E) : vergerref5_Less.f a.f0 a.f1 b.f0 b.f1 = some (ltE a b) := refless_told a.f0 a.f1 b.f0 b.f1
theorem cuts_j1 (k : Nat) (hk : 300 ≤ k) (x y : List E) (hx : x.length ≤ 120) (hy : y.length ≤ 120) (hxs : SortedE x) (hys : SortedE y) : vergerlaw6_BlockCuts.j1 k false ((lev (x.length : Int) : Nat) : Int) x ((lev (y.length : Int) : Nat) : Int) y = some true := by
 obtain ⟨k, rfl, _⟩ := succ_of (show 299 < k by omega)
 have ox : block_Block_Ok.f k ((lev (x.length : Int) : Nat) : Int) x = some true := by
  rw [blockok_told k _ x (by omega) (by omega), okTo_sorted hxs]; simp
 have oy : block_Block_Ok.f k ((lev (y.length : Int) : Nat) : Int) y = some true := by
  rw [blockok_told k _ y (by omega) (by omega), okTo_sorted hys]; simp
 simp only [vergerlaw6_BlockCuts.j1]
 rw [if_neg (by simp), ox, oy, awake6 k (by omega)]
 simp only [Option.bind_some, if_true, ite_self]
theorem cuts_j0 (k : Nat) (hk : 301 ≤ k) (x y : List E) (hx : x.length ≤ 120) (hy : y.length ≤ 120) (hxs : SortedE x) (hys : SortedE y) (h : ∀ a ∈ x, ∀ b ∈ y, leE a b = true) : vergerlaw6_BlockCuts.j0 k false ((lev (x.length : Int) : Nat) : Int) x ((lev (y.length : Int) : Nat) : Int) y = some true := by
 obtain ⟨k, rfl, _⟩ := succ_of (show 300 < k by omega)
 have hj := cuts_j1 k (by omega) x y hx hy hxs hys
 simp only [vergerlaw6_BlockCuts.j0]
 rw [if_neg (by simp)]
 by_cases h1 : (x.length : Int) > 0
 · rw [if_pos h1]
   by_cases h2 : (y.length : Int) > 0
   · have hw : wrap64 ((x.length : Int) - 1) = ((x.length - 1 : Nat) : Int) := wsub1 (by omega) (by omega)
     rw [if_pos h2, if_pos (by omega), hw, if_pos (by omega), if_pos (by omega), refless_rd]
     simp only [Option.bind_some]
     have ha : rd_T31 x ((x.length - 1 : Nat) : Int) ∈ x := by rw [rd_get (show x.length - 1 < x.length by omega)]; exact List.getElem_mem _
     have hb : rd_T31 y 0 ∈ y := by
      have := rd_get (l := y) (i := 0) (by omega)
      rw [show ((0 : Nat) : Int) = 0 from rfl] at this
      rw [this]
      exact List.getElem_mem _
     have := h _ ha _ hb
     have hf : ltE (rd_T31 y 0) (rd_T31 x ((x.length - 1 : Nat) : Int)) = false := by simpa [leE] using this
     rw [hf]
     exact hj
   · rw [if_neg h2]
     exact hj
 · rw [if_neg h1]
   exact hj
theorem cuts_all (k : Nat) (hk : 600 ≤ k) (l : List E) (n : Int) : vergerlaw6_BlockCuts.f k l n = some true := by
 unfold vergerlaw6_BlockCuts.f
 simp only [few_told, Option.bind_some]
 by_cases h : (l.length : Int) ≤ 120
 · rw [if_pos (decide_eq_true h), of_told k l (by omega) (by omega)]
   simp only [Option.bind_some]
   have hsl := sortE_length l
   have hss := sortE_sorted l
   rw [cut_told k _ _ n (by omega) (by omega)]
   simp only [Option.bind_some]
   have hc := clampN_le n (sortE l).length
   generalize clampN n (sortE l).length = c at hc
   rw [sortE_of_sorted (sorted_take hss c), sortE_of_sorted (sorted_drop hss c)]
   have ht : ((sortE l).take c).length = c := by rw [List.length_take]; omega
   have hd : ((sortE l).drop c).length = l.length - c := by rw [List.length_drop]; omega
   rw [blockmerge_told k _ _ _ _ (by omega) (by omega)]
   simp only [Option.bind_some]
   rw [List.take_append_drop, sortE_of_sorted hss, if_pos (by congr 2; omega), same_told k _ (by omega) (by omega)]
   simp only [Option.bind_some]
   rw [if_pos (by first | rfl | trivial), wadd (by omega), show (((((sortE l).take c).length + ((sortE l).drop c).length : Nat) : Int) != (l.length : Int)) = false by simp; omega]
   refine cuts_j0 k (by omega) _ _ (by omega) (by omega) (sorted_take hss c) (sorted_drop hss c) ?_
   have := List.take_append_drop c (sortE l)
   rw [← this] at hss
   exact (sorted_append.1 hss).2.2
 · rw [if_neg (by simpa using h), awake6 k (by omega)]
   rfl
theorem BlockCuts_pure (l : List E) (n : Int) {P Q R : Prop} (_ : P) (_ : Q) (_ : R) : ∃ k, vergerlaw6_BlockCuts.f k l n = some true := ⟨600, cuts_all 600 (Nat.le_refl _) l n⟩
end Go.Proofs.Ytccppdmangbdoaa.V
end
section
set_option linter.unusedVariables false
set_option linter.unusedSimpArgs false
namespace Go.Proofs.Ytccppdmangbdoaa.VOpen
open Go.RowKit Go.Proofs.YtccppdmangbdoaaW.PrintWords Go.Deep Go.ChangeShapes Go.WideShapes
structure Fits {α : Type} (P : Program) (t : TypeId) (d : Kd α) (good : α → Prop) : Prop where
  sz : P.cellsOf t = d.sz
  opens : ∀ {H : Type} {enc : TypeId × Value → H} {w : World} {base : Nat} {spare : Nat → Bool} {held : Bool} {fuel : Nat} {cs : List Value} {x : DataW H × List MemPlace},
    DataW.trod enc P w base spare held fuel t cs = some x → ∃ a, d.K w a cs ∧ good a
theorem fits_int {P : Program} {t : TypeId} {k : IntKind} (ht : P.underlying t = some (.int k)) (hc : P.cellsOf t = 1) : Fits P t (Kd.int k) (fun n => (Lit.int k n).wf = true) where
 sz := hc
 opens := fun h => by
  obtain ⟨n, rfl, _, hw⟩ := DataW.trod_int ht h
  exact ⟨n, rfl, hw⟩
theorem fits_iso {α β : Type} {P : Program} {t : TypeId} {d : Kd α} {good : α → Prop} (f : β → α) (g : α → β) (hfg : ∀ a, f (g a) = a) (h : Fits P t d good) : Fits P t (Kd.iso d f) (fun b => good (f b)) where
 sz := h.sz
 opens := fun hx => by
  obtain ⟨a, hk, hg⟩ := h.opens hx
  exact ⟨g a, by show d.K _ (f (g a)) _; rw [hfg]; exact hk, by rw [hfg]; exact hg⟩
structure FitsRow {α : Type} (P : Program) (fs : List Field) (o : Nat) (d : Kd α) (good : α → Prop) : Prop where
  opens : ∀ {H : Type} {enc : TypeId × Value → H} {w : World} {base : Nat} {spare : Nat → Bool} {held : Bool} {n : Nat} {cs : List Value} {xs : List (DataW H × List MemPlace)},
    cs.length = d.sz → xs.length = fs.length →
    (∀ (i : Nat) (f : Field), fs[i]? = some f → DataW.trod enc P w base spare held n f.type ((cs.drop (f.offset - o)).take (P.cellsOf f.type)) = xs[i]?) → (∀ (i : Nat) (f : Field), fs[i]? = some f → o ≤ f.offset) → ∃ a, d.K w a cs ∧ good a
theorem fitsRow_one {α : Type} {P : Program} {f : Field} {o : Nat} {d : Kd α} {good : α → Prop} (ho : f.offset = o) (h : Fits P f.type d good) : FitsRow P [f] o d good where
 opens := fun {H enc w base spare held n cs xs} hl hx hf _ => by
  match xs, hx with
  | [x], _ =>
   have := hf 0 f rfl
   rw [ho, Nat.sub_self, List.drop_zero, h.sz, List.take_of_length_le (Nat.le_of_eq hl)] at this
   exact h.opens this
theorem fitsRow_cons {α β : Type} {P : Program} {f : Field} {fs : List Field} {o : Nat} {a : Kd α} {b : Kd β} {ga : α → Prop} {gb : β → Prop} (ho : f.offset = o) (hos : ∀ (i : Nat) (f' : Field), fs[i]? = some f' → o + a.sz ≤ f'.offset)
 (h : Fits P f.type a ga) (hs : FitsRow P fs (o + a.sz) b gb) : FitsRow P (f :: fs) o (Kd.pair a b) (fun p => ga p.1 ∧ gb p.2) where
 opens := fun {H enc w base spare held n cs xs} hl hx hf _ => by
  match xs, hx with
  | x :: xs, hx =>
   have hl' : cs.length = a.sz + b.sz := hl
   have h0 := hf 0 f rfl
   rw [ho, Nat.sub_self, List.drop_zero, h.sz] at h0
   obtain ⟨u, hu, gu⟩ := h.opens h0
   obtain ⟨v, hv, gv⟩ := hs.opens (cs := cs.drop a.sz) (xs := xs) (by rw [List.length_drop]; omega) (by simpa using hx) (fun i f' hi => by
    have h1 := hf (i + 1) f' hi
    have h2 := hos i f' hi
    rw [List.drop_drop, show a.sz + (f'.offset - (o + a.sz)) = f'.offset - o from by omega]
    exact h1) hos
   exact ⟨(u, v), ⟨cs.take a.sz, cs.drop a.sz, (List.take_append_drop _ _).symm, hu, hv⟩, gu, gv⟩
theorem fits_struct {α : Type} {P : Program} {t : TypeId} {fs : Array Field} {d : Kd α} {good : α → Prop} (ht : P.underlying t = some (.struct fs)) (hc : P.cellsOf t = d.sz) (h : FitsRow P fs.toList 0 d good) : Fits P t d good where
 sz := hc
 opens := fun hx => by
  obtain ⟨xs, n, _, _, hl, hxl, hf⟩ := DataW.trod_struct ht hx
  exact h.opens (xs := xs) (n := n) (by rw [hl, hc]) (by rw [hxl]; simp) (fun i f hi => by
   have := hf i f (by simpa using hi)
   rw [Nat.sub_zero]
   exact this) (fun _ _ _ => Nat.zero_le _)
theorem filter_all {α : Type} (f : Nat → Option α) : ∀ (len : Nat), (∀ i, i < len → ∃ u, f i = some u) → ((List.range len).filterMap f).length = len ∧ ∀ i, i < len → ((List.range len).filterMap f)[i]? = f i := by
 intro len
 induction len with
 | zero => simp
 | succ k ih =>
  intro hf
  obtain ⟨h1, h2⟩ := ih (fun i hi => hf i (by omega))
  obtain ⟨u, hu⟩ := hf k (by omega)
  rw [List.range_succ, List.filterMap_append]
  simp only [List.filterMap_cons, hu, List.filterMap_nil]
  refine ⟨by simp [h1], fun i hi => ?_⟩
  by_cases hik : i < k
  · rw [List.getElem?_append_left (by omega)]
    exact h2 i hik
  · have : i = k := by omega
    subst this
    rw [List.getElem?_append_right (by omega), h1, hu]
    simp
theorem fits_slice {α : Type} {P : Program} {t e : TypeId} {d : Kd α} {good : α → Prop} (ht : P.underlying t = some (.slice e)) (hc : P.cellsOf t = 1) (h : Fits P e d good) : Fits P t (Kd.slice e d) (fun l => ∀ x ∈ l, good x) where
 sz := hc
 opens := fun {H enc w base spare held fuel cs x} hx => by
  rcases open_slice ht hx with ⟨rfl, _⟩ | ⟨a, len, cap, m, n, D, Pl, rfl, _, hl, hm, hmm, _, hcell⟩
  · exact ⟨[], ⟨none, 0, rfl, Nat.le_refl _, rfl, by simp, fun h0 => absurd h0 (by simp)⟩, by simp⟩
  · have hlm : len ≤ m := by rw [hmm]; split <;> omega
    have each : ∀ i, i < len → ∃ u : α, (∃ c, c.length = d.sz ∧ d.K w u c ∧ ∀ j v, c[j]? = some v → w.cell? (a.add (i * d.sz + j)) = some v) ∧ good u := by
     intro i hi
     obtain ⟨c, h1, h2⟩ := hcell i (by omega)
     rw [h.sz] at h1
     obtain ⟨_, h3, h4⟩ := World.cells?_some h1
     obtain ⟨u, hu, gu⟩ := h.opens h2
     refine ⟨u, ⟨c, h3, hu, fun j v hj => ?_⟩, gu⟩
     have hjl : j < d.sz := by have := (List.getElem?_eq_some_iff.1 hj).1; omega
     have := h4 j hjl
     rw [Addr.add_add] at this
     rw [this, hj]
    have hex : ∃ f : Nat → Option α, ∀ i, i < len → ∃ u, f i = some u ∧ (∃ c, c.length = d.sz ∧ d.K w u c ∧ ∀ j v, c[j]? = some v → w.cell? (a.add (i * d.sz + j)) = some v) ∧ good u := by
     classical
     refine ⟨fun i => if hi : i < len then some (Classical.choose (each i hi)) else none, fun i hi => ⟨Classical.choose (each i hi), by simp [hi], Classical.choose_spec (each i hi)⟩⟩
    obtain ⟨f, hf⟩ := hex
    have hlen := filter_all f len (fun i hi => (hf i hi).imp fun _ h => h.1)
    refine ⟨(List.range len).filterMap f, ⟨some a, cap, by rw [hlen.1], by rw [hlen.1]; exact hl, rfl, by rw [hlen.1]; unfold maxLen at hm; omega, fun _ => ⟨a, rfl, fun j p hj => ?_⟩⟩, fun x hx => ?_⟩
    · have hjl : j < len := by have := (List.getElem?_eq_some_iff.1 hj).1; rw [hlen.1] at this; exact this
      obtain ⟨u, hu, hc, _⟩ := hf j hjl
      rw [hlen.2 j hjl, hu] at hj
      injection hj with hj
      subst hj
      exact hc
    · obtain ⟨j, hj⟩ := List.mem_iff_getElem?.1 hx
      have hjl : j < len := by have := (List.getElem?_eq_some_iff.1 hj).1; rw [hlen.1] at this; exact this
      obtain ⟨u, hu, _, gu⟩ := hf j hjl
      rw [hlen.2 j hjl, hu] at hj
      injection hj with hj
      subst hj
      exact gu
theorem slice_arg {α : Type} {P : Program} {t e : TypeId} {d : Kd α} {good : List α → Prop} (h : Fits P t (Kd.slice e d) good) {H : Type} {enc : TypeId × Value → H} {w : World} {base : Nat} {spare : Nat → Bool} {held : Bool} {fuel : Nat} {v : Value}
 {x : DataW H × List MemPlace} {A : Option Addr} {len cap : Nat} (hv : v = .slice A len cap) (hx : DataW.trod enc P w base spare held fuel t v.cells.toList = some x) : ∃ l : List α, len = l.length ∧ l.length ≤ cap ∧ d.C w A l.length l ∧ good l := by
 subst hv
 obtain ⟨l, ⟨A', c', hcs, hl, hC⟩, hg⟩ := h.opens hx
 simp only [Value.cells, List.cons.injEq, and_true, Value.slice.injEq] at hcs
 obtain ⟨rfl, rfl, rfl⟩ := hcs
 exact ⟨l, rfl, hl, hC, hg⟩
theorem slice_bound {P : Program} {t e : TypeId} (ht : P.underlying t = some (.slice e)) {H : Type} {enc : TypeId × Value → H} {w : World} {base : Nat} {spare : Nat → Bool} {held : Bool} {fuel : Nat}
 {x : DataW H × List MemPlace} {A : Option Addr} {len cap : Nat} (hx : DataW.trod enc P w base spare held fuel t (Value.slice A len cap).cells.toList = some x)
 {ts : List TypeId} {ds : List (DataW H)} (hs : (DataW.weightsEach P ts ds).all (· ≤ reachBytes) = true) {j : Nat} (h1 : ts[j]? = some t) (h2 : ds[j]? = some x.1) {b : Nat} (hb : P.bytesOf e = b) : len * b ≤ 140737488351232 := by
 rcases DataW.trod_slice ht hx with ⟨hc, rfl⟩ | ⟨a, len', cap', elems, rest, n, _, hc, rfl, _, _, _, hl, _⟩
 · simp only [Value.cells, List.cons.injEq, and_true, Value.slice.injEq] at hc
   obtain ⟨rfl, rfl, rfl⟩ := hc
   omega
 · simp only [Value.cells, List.cons.injEq, and_true, Value.slice.injEq] at hc
   obtain ⟨rfl, rfl, rfl⟩ := hc
   have := sized_slice hs h1 h2 ht
   rw [hb, List.length_map, hl] at this
   refine Nat.le_trans (Nat.mul_le_mul_right b (Nat.le_add_right len _)) this
end Go.Proofs.Ytccppdmangbdoaa.VOpen
end
