-- a text of this work, without what this claim doesn't use (wip/shake.py)
import Derived.Test.YtdfndglenbckhaaYVPentry1
import Derived.Test.YtdfndglenbckhaaYVPslices
import Derived.Test.YtdfndglenbckhaaYVPvergerref51
import Derived.Test.YtdfndglenbckhaaYVP5T
import Derived.Test.YtdfndglenbckhaaYVPblockb
import Derived.Test.YtdfndglenbckhaaYVXGrow
import Derived.Test.YtdfndglenbckhaaYVXSort
import Derived.Laws.Bits64b
import Derived.Test.YtdfndglenbckhaaYVPvergerref5
import Derived.Test.YtdfndglenbckhaaYVE46
import Derived.Test.YtdfndglenbckhaaYVCall
import Derived.Deep.RegionWith
import Derived.IntWalk
import Derived.BigRegion
import Derived.Shelf.Spec.SlicesInsert
import Derived.Deep.RegionHeld3
import Derived.WalkMore
import Derived.ScopeJumps
import Derived.Shelf.RegionOpenPlain
section
set_option linter.unusedVariables false
set_option linter.unusedSimpArgs false
namespace Go.Proofs.Ytdfndglenbckhaa.V
open Go.RowKit Go.Proofs.YtdfndglenbckhaaW.PrintWords Go.Proofs.YtdfndglenbckhaaW.PrintLast Go.Proofs.YtdfndglenbckhaaW.PrintMore
theorem same_loop (l : List E) (hl : l.length < 1000000000) : ∀ (d k i : Nat), l.length - i = d → i ≤ l.length → d < k → vergerref5_Same.l0 k l l (i : Int) = some true := by
 intro d
 induction d with
 | zero =>
  intro k i hd hi hk
  obtain ⟨k, rfl, _⟩ := succ_of hk
  simp only [vergerref5_Same.l0]
  rw [if_neg (by omega)]
 | succ d ih =>
  intro k i hd hi hk
  obtain ⟨k, rfl, hk'⟩ := succ_of hk
  have hz : (i : Int) < (l.length : Int) := by omega
  have h0 : (0 : Int) ≤ (i : Int) := by omega
  simp only [vergerref5_Same.l0, if_pos hz, if_pos h0, wrap_nat (show i ≤ 4611686018427387904 by omega)]
  rw [if_neg (by simp)]
  exact ih k (i + 1) (by omega) (by omega) (by omega)
theorem same_told (k : Nat) (l : List E) (hl : l.length < 1000000000) (hk : l.length < k) : vergerref5_Same.f k l l = some true := by
 unfold vergerref5_Same.f
 rw [if_pos rfl]
 exact same_loop l hl l.length k 0 (by omega) (by omega) hk
def downAt (l : List E) (j : Nat) : Bool := ltE (l.getD (j + 1) z46) (l.getD j z46)
def okTo (l : List E) : Nat → Bool
  | 0 => true
  | n + 1 => okTo l n && !downAt l n
theorem okTo_iff (l : List E) (n : Nat) : okTo l n = true ↔ ∀ j, j < n → downAt l j = false := by
 induction n with
 | zero => simp [okTo]
 | succ n ih =>
  simp only [okTo, Bool.and_eq_true, ih, Bool.not_eq_true']
  constructor
  · intro h j hj
    rcases Nat.lt_succ_iff_lt_or_eq.1 hj with h1 | h1
    · exact h.1 j h1
    · subst h1; exact h.2
  · intro h
    exact ⟨fun j hj => h j (by omega), h n (by omega)⟩
theorem okTo_false (l : List E) {j n : Nat} (hj : j < n) (h : downAt l j = true) : okTo l n = false := by
 cases hc : okTo l n with
 | false => rfl
 | true => have := (okTo_iff l n).1 hc j hj; rw [this] at h; cases h
theorem issorted_loop (l : List E) (hl : l.length < 1000000000) : ∀ (i k : Nat), i < l.length → i + 4 ≤ k → api_Entry_119.l0 k l (i : Int) = some (okTo l i) := by
 intro i
 induction i with
 | zero =>
  intro k hi hk
  obtain ⟨k, rfl, _⟩ := succ_of (show 0 < k by omega)
  simp only [api_Entry_119.l0]
  rw [if_neg (by omega)]
  rfl
 | succ i ih =>
  intro k hi hk
  obtain ⟨k, rfl, _⟩ := succ_of (show 0 < k by omega)
  have h0 : ((i + 1 : Nat) : Int) > 0 := by omega
  have h1 : (0 : Int) ≤ ((i + 1 : Nat) : Int) := by omega
  have h2 : ((i + 1 : Nat) : Int) < (l.length : Int) := by omega
  have hw : wrap64 (((i + 1 : Nat) : Int) - 1) = (i : Int) := by rw [wsub1 (by omega) (by omega)]; omega
  have h3 : (0 : Int) ≤ (i : Int) := by omega
  have h4 : (i : Int) < (l.length : Int) := by omega
  simp only [api_Entry_119.l0, if_pos h0, if_pos h1, if_pos h2, hw, if_pos h3, if_pos h4, compare_told k (show 3 ≤ k by omega), Option.bind_some, rd_nat]
  by_cases hc : downAt l i = true
  · rw [if_pos ((cmpE_neg _ _).2 hc)]
    simp only [okTo, hc]
    simp
  · rw [if_neg (fun h => hc ((cmpE_neg _ _).1 h)), ih k (by omega) (by omega)]
    simp only [okTo]
    simp [hc]
theorem issorted_told (k : Nat) (l : List E) (hl : l.length < 1000000000) (hk : l.length + 4 ≤ k) : entry_Sorted.f k l = some (okTo l (l.length - 1)) := by
 unfold entry_Sorted.f api_Entry_119.f
 by_cases hn : l.length = 0
 · rw [hn]
   obtain ⟨k, rfl, _⟩ := succ_of (show 0 < k by omega)
   have hw : wrap64 (((0 : Nat) : Int) - 1) = -1 := wrap_id (by omega) (by omega)
   rw [hw]
   simp [api_Entry_119.l0, okTo]
 · rw [wsub1 (by omega) (by omega), issorted_loop l hl (l.length - 1) k (by omega) (by omega)]
   rfl
theorem okTo_sorted {l : List E} (h : SortedE l) : okTo l (l.length - 1) = true := by
 rw [okTo_iff]
 intro j hj
 unfold downAt
 have h1 : j + 1 < l.length := by omega
 have h2 : j < l.length := by omega
 simp only [List.getD_eq_getElem?_getD, List.getElem?_eq_getElem h1, List.getElem?_eq_getElem h2, Option.getD_some]
 have := sorted_get h (show j < j + 1 by omega) (List.getElem?_eq_getElem h2) (List.getElem?_eq_getElem h1)
 simpa [leE] using this
theorem refsorted_loop (l : List E) (hl : l.length < 1000000000) : ∀ (d k i : Nat), l.length - 1 - i = d → okTo l i = true → d + 1 < k → vergerref5_Sorted.l0 k l ((i + 1 : Nat) : Int) = some (okTo l (max i (l.length - 1))) := by
 intro d
 induction d with
 | zero =>
  intro k i hd hok hk
  obtain ⟨k, rfl, _⟩ := succ_of hk
  simp only [vergerref5_Sorted.l0]
  rw [if_neg (by omega), show max i (l.length - 1) = i by omega, hok]
 | succ d ih =>
  intro k i hd hok hk
  obtain ⟨k, rfl, hk'⟩ := succ_of hk
  have h1 : (0 : Int) ≤ ((i + 1 : Nat) : Int) := by omega
  have h2 : ((i + 1 : Nat) : Int) < (l.length : Int) := by omega
  have hw : wrap64 (((i + 1 : Nat) : Int) - 1) = (i : Int) := by rw [wsub1 (by omega) (by omega)]; omega
  have h3 : (0 : Int) ≤ (i : Int) := by omega
  have h4 : (i : Int) < (l.length : Int) := by omega
  simp only [vergerref5_Sorted.l0, if_pos h1, if_pos h2, hw, if_pos h3, if_pos h4, refless_told, Option.bind_some, rd_nat, wrap_nat (show i + 1 ≤ 4611686018427387904 by omega)]
  rw [show max i (l.length - 1) = max (i + 1) (l.length - 1) by omega]
  by_cases hc : downAt l i = true
  · rw [if_pos (by exact hc), okTo_false l (j := i) (by omega) hc]
  · rw [if_neg (by exact hc)]
    exact ih k (i + 1) (by omega) (by simp [okTo, hok, hc]) (by omega)
theorem refsorted_told (k : Nat) (l : List E) (hl : l.length < 1000000000) (hk : l.length + 1 < k) : vergerref5_Sorted.f k l = some (okTo l (l.length - 1)) := by
 have := refsorted_loop l hl (l.length - 1) k 0 (by omega) rfl (by omega)
 unfold vergerref5_Sorted.f
 simpa using this
end Go.Proofs.Ytdfndglenbckhaa.V
end
section
set_option linter.unusedVariables false
set_option linter.unusedSimpArgs false
namespace Go.Proofs.Ytdfndglenbckhaa.V
open Go.RowKit Go.Proofs.YtdfndglenbckhaaW.PrintWords Go.Proofs.YtdfndglenbckhaaW.PrintLast Go.Proofs.YtdfndglenbckhaaW.PrintMore
theorem concat_told (k : Nat) (hk : 10 ≤ k) (l m : List E) (hl : l.length + m.length < 1000000000) : api_Entry_100.f k [l, m] = some (l ++ m) := by
 obtain ⟨k, rfl⟩ : ∃ q, k = q + 10 := ⟨k - 10, by omega⟩
 have r0 : rd_L5 [l, m] 0 = l := rfl
 have r1 : rd_L5 [l, m] 1 = m := rfl
 have e1 : wrap64 (0 + 1) = 1 := wrap_id (by omega) (by omega)
 have e2 : wrap64 (1 + 1) = 2 := wrap_id (by omega) (by omega)
 have s1 : wrap64 (0 + (l.length : Int)) = (l.length : Int) := by rw [wrap_id (by omega) (by omega)]; omega
 have s2 : wrap64 ((l.length : Int) + (m.length : Int)) = ((l.length + m.length : Nat) : Int) := wadd (by omega)
 have n1 : ¬ (l.length : Int) < 0 := by omega
 have n2 : ¬ ((l.length + m.length : Nat) : Int) < 0 := by omega
 have n3 : (0 : Int) < (([l, m] : List (List E)).length : Int) := by simp
 have n4 : (1 : Int) < (([l, m] : List (List E)).length : Int) := by simp
 have n5 : ¬ (2 : Int) < (([l, m] : List (List E)).length : Int) := by simp
 have z1 : (0 : Int) ≤ 1 := by decide
 have z0 : (0 : Int) ≤ 0 := by decide
 have g : api_Entry_116.f [] ((l.length + m.length : Nat) : Int) = some [] := if_pos ⟨rfl, by omega, by omega⟩
 have b1 : ([] : List E).length + l.length < 8796093022208 := by simp; omega
 have b2 : (([] : List E) ++ l).length + m.length < 8796093022208 := by simp; omega
 unfold api_Entry_100.f
 simp only [api_Entry_100.l0, if_pos n3, if_pos n4, if_neg n5, if_pos z0, if_pos z1, r0, r1, s1, if_neg n1, e1, s2, if_neg n2, e2, g, Option.bind_some, api_Entry_100.l1, if_pos b1, if_pos b2]
 simp
end Go.Proofs.Ytdfndglenbckhaa.V
end
section
set_option linter.unusedVariables false
set_option linter.unusedSimpArgs false
namespace Go.Proofs.Ytdfndglenbckhaa.V
open Go.RowKit Go.Proofs.YtdfndglenbckhaaW.PrintWords Go.Proofs.YtdfndglenbckhaaW.PrintLast Go.Proofs.YtdfndglenbckhaaW.PrintMore
def levGo : Nat → Nat → Int → Nat
  | 0, i, _ => i
  | d + 1, i, n => if (2 : Int) ^ i < n then levGo d (i + 1) n else i
def lev (n : Int) : Nat := levGo 62 0 n
theorem pow2_pos (i : Nat) : (0 : Int) < 2 ^ i := Int.pow_pos (by decide)
theorem pow2_lt : ∀ (i : Nat), i ≤ 62 → (2 : Int) ^ i ≤ 4611686018427387904 := by
 intro i hi
 have : (2 : Int) ^ i ≤ 2 ^ 62 := by
  have h : (2 : Nat) ^ i ≤ 2 ^ 62 := Nat.pow_le_pow_right (by decide) hi
  exact_mod_cast h
 simpa using this
theorem shl_one {i : Nat} (h : i ≤ 62) : shl .i64 1 (i : Int) = 2 ^ i := by
 unfold shl
 have h1 : min ((i : Int)).toNat IntKind.i64.bits = i := by show min _ 64 = i; omega
 rw [h1, Int.one_mul]
 have h2 := pow2_pos i
 have h3 := pow2_lt i h
 rw [i64_w]
 exact wrap_id (by omega) (by omega)
theorem level_loop (n : Int) : ∀ (d k i : Nat), i + d = 62 → d < k → block_Level.l0 k n (i : Int) = some ((levGo d i n : Nat) : Int) := by
 intro d
 induction d with
 | zero =>
  intro k i hd hk
  obtain ⟨k, rfl, _⟩ := succ_of hk
  simp only [block_Level.l0]
  rw [if_neg (by omega)]
  rfl
 | succ d ih =>
  intro k i hd hk
  obtain ⟨k, rfl, hk'⟩ := succ_of hk
  simp only [block_Level.l0]
  rw [if_pos (by omega), if_pos (by omega), shl_one (by omega), wrap_nat (by omega), ih k (i + 1) (by omega) (by omega)]
  simp only [levGo]
  by_cases hc : (2 : Int) ^ i < n
  · rw [if_pos hc, if_pos hc]
  · rw [if_neg hc, if_neg hc]
theorem level_told (k : Nat) (n : Int) (hk : 62 < k) : block_Level.f k n = some ((lev n : Nat) : Int) := level_loop n 62 k 0 (by omega) hk
theorem lev_le : ∀ (d i : Nat) (n : Int), levGo d i n ≤ i + d := by
 intro d
 induction d with
 | zero => intro i n; exact Nat.le_refl _
 | succ d ih =>
  intro i n
  simp only [levGo]
  split
  · exact Nat.le_trans (ih (i + 1) n) (by omega)
  · omega
def LevOk (n : Int) (L : Nat) : Prop := n ≤ 2 ^ L ∧ (0 < L → (2 : Int) ^ (L - 1) < n)
theorem levgo_ok : ∀ (d i : Nat) (n : Int), i + d = 62 → n ≤ 4611686018427387904 → (0 < i → (2 : Int) ^ (i - 1) < n) → LevOk n (levGo d i n) := by
 intro d
 induction d with
 | zero =>
  intro i n hd hn hi
  obtain rfl : i = 62 := by omega
  exact ⟨by simpa [levGo] using hn, by simpa [levGo] using hi⟩
 | succ d ih =>
  intro i n hd hn hi
  simp only [levGo]
  by_cases hc : (2 : Int) ^ i < n
  · rw [if_pos hc]
    exact ih (i + 1) n (by omega) hn (fun _ => by simpa using hc)
  · rw [if_neg hc]
    exact ⟨by omega, hi⟩
theorem lev_ok {n : Int} (hn : n ≤ 4611686018427387904) : LevOk n (lev n) := levgo_ok 62 0 n (by omega) hn (by omega)
theorem pow_mono {a b : Nat} (h : a ≤ b) : (2 : Int) ^ a ≤ 2 ^ b := by
 have : (2 : Nat) ^ a ≤ 2 ^ b := Nat.pow_le_pow_right (by decide) h
 exact_mod_cast this
theorem lev_unique {n : Int} {L M : Nat} (h : LevOk n L) (k : LevOk n M) : L = M := by
 rcases Nat.lt_trichotomy L M with h1 | h1 | h1
 · have := k.2 (by omega)
   have := pow_mono (a := L) (b := M - 1) (by omega)
   have := h.1
   omega
 · exact h1
 · have := h.2 (by omega)
   have := pow_mono (a := M) (b := L - 1) (by omega)
   have := k.1
   omega
theorem lev_62 (n : Int) : lev n ≤ 62 := by have := lev_le 62 0 n; unfold lev; omega
theorem lev_mono {a b : Int} (h : a ≤ b) (hb : b ≤ 4611686018427387904) : lev a ≤ lev b := by
 have h1 := lev_ok (n := a) (by omega)
 have h2 := lev_ok hb
 rcases Nat.lt_or_ge (lev b) (lev a) with hc | hc
 · have := h1.2 (by omega)
   have := pow_mono (a := lev b) (b := lev a - 1) (by omega)
   have := h2.1
   omega
 · exact hc
theorem sort6_some {l : List E} (h : l.length < 1000000000) : entry_Sort.f l = some (sortE l) := if_pos h
theorem of_told (k : Nat) (l : List E) (hl : l.length < 1000000000) (hk : 62 < k) : block_Of.f k l = some (((lev (l.length : Int) : Nat) : Int), sortE l) := by
 unfold block_Of.f
 rw [level_told k _ hk]
 simp only [Option.bind_some]
 rw [sort6_some hl]
 rfl
theorem blockok_told (k : Nat) (L : Int) (l : List E) (hl : l.length < 1000000000) (hk : l.length + 64 ≤ k) : block_Block_Ok.f k L l = some (decide (L = ((lev (l.length : Int) : Nat) : Int)) && okTo l (l.length - 1)) := by
 have h62 := lev_62 (l.length : Int)
 unfold block_Block_Ok.f
 rw [level_told k _ (by omega)]
 simp only [Option.bind_some]
 rw [issorted_told k l hl (by omega)]
 simp only [Option.bind_some]
 by_cases h0 : L ≥ 0
 · rw [if_pos h0]
   by_cases h1 : L ≤ 62
   · rw [if_pos h1]
     by_cases h2 : L = ((lev (l.length : Int) : Nat) : Int)
     · rw [if_pos h2, decide_eq_true h2, Bool.true_and]
     · rw [if_neg h2, decide_eq_false h2, Bool.false_and]
   · rw [if_neg h1, decide_eq_false (by omega), Bool.false_and]
 · rw [if_neg h0, decide_eq_false (by omega), Bool.false_and]
theorem blockmerge_told (k : Nat) (L M : Int) (x y : List E) (hl : x.length + y.length < 1000000000) (hk : 62 < k) : block_Merge.f k L x M y = some (((lev ((x.length + y.length : Nat) : Int) : Nat) : Int), sortE (x ++ y)) := by
 unfold block_Merge.f
 rw [concat_told k (by omega) x y hl]
 simp only [Option.bind_some]
 rw [of_told k _ (by simpa using hl) hk, List.length_append]
 rfl
theorem clamp_told (n : Int) (m : Nat) : 0 ≤ mn (mx n 0) (m : Int) ∧ mn (mx n 0) (m : Int) ≤ (m : Int) := by
 unfold mn mx
 omega
def clampN (n : Int) (m : Nat) : Nat := (mn (mx n 0) (m : Int)).toNat
theorem clampN_le (n : Int) (m : Nat) : clampN n m ≤ m := by have := clamp_told n m; unfold clampN; omega
def allB (bs : List S84) : List E := bs.flatMap fun b => b.f1
theorem allB_nil : allB [] = [] := rfl
theorem allB_take {bs : List S84} {i : Nat} (h : i < bs.length) : allB (bs.take (i + 1)) = allB (bs.take i) ++ bs[i].f1 := by
 unfold allB
 rw [List.take_succ_eq_append_getElem h, List.flatMap_append]
 simp
theorem allB_take_le (bs : List S84) (i : Nat) : (allB (bs.take i)).length ≤ (allB bs).length := by
 have : allB bs = allB (bs.take i) ++ allB (bs.drop i) := by unfold allB; rw [← List.flatMap_append, List.take_append_drop]
 rw [this, List.length_append]
 omega
theorem rdB_get {l : List S84} {i : Nat} (h : i < l.length) : rd_T84 l (i : Int) = l[i] := by unfold rd_T84; simp [List.getD_eq_getElem?_getD, List.getElem?_eq_getElem h]
theorem pivot_loop (bs : List S84) (n : Int) (hb : bs.length < 1000000000) (hl : (allB bs).length < 1000000000) : ∀ (d k i : Nat), bs.length - i = d → i ≤ bs.length → d < k →
 block_Pivot.l0 k n (allB (bs.take i)) bs (bs.length : Int) (i : Int) = some ((sortE (allB bs)).take (clampN n (allB bs).length)) := by
 intro d
 induction d with
 | zero =>
  intro k i hd hi hk
  obtain ⟨k, rfl, _⟩ := succ_of hk
  obtain rfl : i = bs.length := by omega
  simp only [block_Pivot.l0]
  rw [if_neg (by omega), List.take_length, sort6_some hl]
  simp only [Option.bind_some, sortE_length]
  have h := clamp_told n (allB bs).length
  rw [if_pos h.1, if_pos h.2]
  rfl
 | succ d ih =>
  intro k i hd hi hk
  obtain ⟨k, rfl, hk'⟩ := succ_of hk
  have hlt : i < bs.length := by omega
  have ht := allB_take hlt
  have hle := allB_take_le bs (i + 1)
  rw [ht, List.length_append] at hle
  simp only [block_Pivot.l0, rdB_get hlt]
  rw [if_pos (by omega), if_pos (by omega), if_pos (by omega), if_pos (by omega), wrap_nat (by omega), ← ht]
  exact ih k (i + 1) (by omega) (by omega) (by omega)
theorem pivot_told (k : Nat) (bs : List S84) (n : Int) (hb : bs.length < k) (hb' : bs.length < 1000000000) (hl : (allB bs).length < 1000000000) : block_Pivot.f k bs n = some ((sortE (allB bs)).take (clampN n (allB bs).length)) := pivot_loop bs n hb' hl bs.length k 0 (by omega) (by omega) hb
end Go.Proofs.Ytdfndglenbckhaa.V
end
section
set_option linter.unusedVariables false
set_option linter.unusedSimpArgs false
namespace Go.Proofs.Ytdfndglenbckhaa.V
open Go.RowKit Go.Proofs.YtdfndglenbckhaaW.PrintWords Go.Proofs.YtdfndglenbckhaaW.PrintLast Go.Proofs.YtdfndglenbckhaaW.PrintMore
abbrev Bk := S84
theorem Bk.ext' {a b : Bk} (h0 : a.f0 = b.f0) (h1 : a.f1 = b.f1) : a = b := by cases a; cases b; simp_all
def mkB (l : List E) : Bk := ⟨((lev (l.length : Int) : Nat) : Int), sortE l⟩
def joinB (a b : Bk) : Bk := mkB (a.f1 ++ b.f1)
theorem mkB_perm {l m : List E} (h : l.Perm m) : mkB l = mkB m := by
 unfold mkB; rw [h.length_eq, sortE_of_perm h]
theorem joinB_comm (a b : Bk) : joinB a b = joinB b a := mkB_perm List.perm_append_comm
structure Sound (b : Bk) : Prop where
  lv : b.f0 = ((lev (b.f1.length : Int) : Nat) : Int)
  up : SortedE b.f1
  ne : b.f1 ≠ []
theorem mkB_sound {l : List E} (h : l ≠ []) : Sound (mkB l) :=
 ⟨by show _ = ((lev ((sortE l).length : Int) : Nat) : Int); rw [sortE_length]; rfl, sortE_sorted l, by
  intro e
  have := sortE_length l
  rw [show sortE l = [] from e] at this
  exact h (List.length_eq_zero_iff.1 this.symm)⟩
theorem joinB_sound {a b : Bk} (ha : Sound a) : Sound (joinB a b) := mkB_sound (by simp [ha.ne])
theorem Sound.pos {b : Bk} (h : Sound b) : 1 ≤ b.f1.length := by
 have := h.ne
 cases hb : b.f1 with
 | nil => exact absurd hb this
 | cons _ _ => simp
theorem joinB_level {a b : Bk} (ha : Sound a) (hb : Sound b) (he : a.f0 = b.f0) (hl : a.f1.length + b.f1.length < 1000000000) : (joinB a b).f0 = a.f0 + 1 := by
 have oa := lev_ok (n := (a.f1.length : Int)) (by omega)
 have ob := lev_ok (n := (b.f1.length : Int)) (by omega)
 have e1 := ha.lv
 have e2 := hb.lv
 obtain ⟨L, hL⟩ : ∃ L : Nat, lev (a.f1.length : Int) = L := ⟨_, rfl⟩
 have hL2 : lev (b.f1.length : Int) = L := by omega
 rw [hL] at oa e1
 rw [hL2] at ob
 have pa := ha.pos
 have pb := hb.pos
 have key : LevOk (((a.f1 ++ b.f1).length : Nat) : Int) (L + 1) := by
  rw [List.length_append]
  obtain ⟨u1, l1⟩ := oa
  obtain ⟨u2, l2⟩ := ob
  have h2 : (2 : Int) ^ (L + 1) = 2 ^ L * 2 := Int.pow_succ 2 L
  refine ⟨by omega, fun _ => ?_⟩
  rw [Nat.add_sub_cancel]
  by_cases h0 : L = 0
  · subst h0; simp; omega
  · have h3 : (2 : Int) ^ L = 2 ^ (L - 1) * 2 := by rw [← Int.pow_succ]; congr 1; omega
    have := l1 (by omega)
    have := l2 (by omega)
    omega
 have h4 := lev_unique (lev_ok (n := (((a.f1 ++ b.f1).length : Nat) : Int)) (by rw [List.length_append]; omega)) key
 show ((lev (((a.f1 ++ b.f1).length : Nat) : Int) : Nat) : Int) = a.f0 + 1
 rw [h4, e1]
 rfl
def Desc (bs : List Bk) : Prop := bs.Pairwise fun a b => b.f0 < a.f0
structure Good (bs : List Bk) : Prop where
  snd : ∀ b ∈ bs, Sound b
  desc : Desc bs
theorem Good.sub {bs cs : List Bk} (h : Good bs) (hs : cs.Sublist bs) : Good cs := ⟨fun b hb => h.snd b (hs.subset hb), h.desc.sublist hs⟩
def insR (x : Bk) : List Bk → List Bk
  | [] => [x]
  | b :: r => if b.f0 < x.f0 then b :: insR x r else if b.f0 = x.f0 then insR (joinB b x) r else x :: b :: r
def ins (x : Bk) (bs : List Bk) : List Bk := (insR x bs.reverse).reverse
theorem insR_skip (x : Bk) : ∀ (c r : List Bk), (∀ b ∈ c, b.f0 < x.f0) → insR x (c ++ r) = c ++ insR x r := by
 intro c
 induction c with
 | nil => intro r _; rfl
 | cons b c ih =>
  intro r h
  show (if b.f0 < x.f0 then b :: insR x (c ++ r) else _) = _
  rw [if_pos (h b (by simp)), ih r (fun q hq => h q (by simp [hq]))]
  rfl
theorem ins_split {x : Bk} {A C : List Bk} (hc : ∀ b ∈ C, b.f0 < x.f0) : ins x (A ++ C) = ins x A ++ C := by
 unfold ins
 rw [List.reverse_append, insR_skip x _ _ (by intro b hb; exact hc b (List.mem_reverse.1 hb)), List.reverse_append, List.reverse_reverse]
theorem ins_eq {x a : Bk} {A : List Bk} (h : a.f0 = x.f0) : ins x (A ++ [a]) = ins (joinB a x) A := by
 unfold ins
 rw [List.reverse_append]
 show (insR x (a :: A.reverse)).reverse = _
 rw [insR, if_neg (by omega), if_pos h]
theorem ins_gt {x a : Bk} {A : List Bk} (h : x.f0 < a.f0) : ins x (A ++ [a]) = A ++ [a] ++ [x] := by
 unfold ins
 rw [List.reverse_append]
 show (insR x (a :: A.reverse)).reverse = _
 rw [insR, if_neg (by omega), if_neg (by omega)]
 simp
structure Cur (x : Bk) (A C : List Bk) : Prop where
  snd : Sound x
  good : Good (A ++ C)
  up : ∀ a ∈ A, x.f0 ≤ a.f0
  dn : ∀ c ∈ C, c.f0 ≤ x.f0
def Mrg (cur fin : List Bk) : Prop := (Good cur ∧ fin = cur) ∨ ∃ x A C, cur = A ++ x :: C ∧ Cur x A C ∧ fin = ins x (A ++ C)
theorem desc_app {A C : List Bk} : Desc (A ++ C) ↔ Desc A ∧ Desc C ∧ ∀ a ∈ A, ∀ c ∈ C, c.f0 < a.f0 := List.pairwise_append
theorem Mrg.snd {cur fin : List Bk} (h : Mrg cur fin) : ∀ b ∈ cur, Sound b := by
 rcases h with ⟨h, _⟩ | ⟨x, A, C, rfl, h, _⟩
 · exact h.snd
 · intro b hb
   rcases List.mem_append.1 hb with hb | hb
   · exact h.good.snd b (by simp [hb])
   · rcases List.mem_cons.1 hb with rfl | hb
     · exact h.snd
     · exact h.good.snd b (by simp [hb])
theorem Mrg.done {cur fin : List Bk} (h : Mrg cur fin) (hn : ∀ i a b, cur[i]? = some a → cur[i + 1]? = some b → a.f0 ≠ b.f0) : fin = cur ∧ Good cur := by
 rcases h with ⟨h, rfl⟩ | ⟨x, A, C, rfl, h, rfl⟩
 · exact ⟨rfl, h⟩
 · have hC : ∀ c ∈ C, c.f0 < x.f0 := by
    intro c hc
    cases C with
    | nil => simp at hc
    | cons c0 C =>
     have h0 := hn A.length x c0 (by simp) (by simp)
     have h1 := h.dn c0 (by simp)
     rcases List.mem_cons.1 hc with rfl | hc
     · omega
     · obtain ⟨_, d2, _⟩ := desc_app.1 h.good.desc
       have := (List.pairwise_cons.1 d2).1 c hc
       omega
   have hA : ∀ a ∈ A, x.f0 < a.f0 := by
    intro a ha
    rcases List.eq_nil_or_concat A with rfl | ⟨A', a', rfl⟩
    · simp at ha
    · rw [List.concat_eq_append] at *
      have h0 := hn A'.length a' x (by simp) (by simp)
      have h1 := h.up a' (by simp)
      rcases List.mem_append.1 ha with ha | ha
      · obtain ⟨d1, _, _⟩ := desc_app.1 h.good.desc
        obtain ⟨_, _, d3⟩ := desc_app.1 d1
        have := d3 a ha a' (by simp)
        omega
      · obtain rfl : a = a' := by simpa using ha
        omega
   refine ⟨?_, Mrg.snd (fin := ins x (A ++ C)) (.inr ⟨x, A, C, rfl, h, rfl⟩), ?_⟩
   · rw [ins_split hC]
     rcases List.eq_nil_or_concat A with rfl | ⟨A', a', rfl⟩
     · rfl
     · rw [List.concat_eq_append] at *
       rw [ins_gt (hA a' (by simp))]
       simp
   · obtain ⟨d1, d2, d3⟩ := desc_app.1 h.good.desc
     refine desc_app.2 ⟨d1, List.pairwise_cons.2 ⟨hC, d2⟩, ?_⟩
     intro a ha c hc
     rcases List.mem_cons.1 hc with rfl | hc
     · exact hA a ha
     · exact d3 a ha c hc
theorem cur_joined {x a : Bk} {A C : List Bk} (hx : Sound x) (ha : Sound a) (he : a.f0 = x.f0) (hg : Good (A ++ C)) (hA : ∀ q ∈ A, x.f0 < q.f0) (hC : ∀ q ∈ C, q.f0 < x.f0) (hl : a.f1.length + x.f1.length < 1000000000) :
 Cur (joinB a x) A C ∧ ins (joinB a x) (A ++ C) = ins (joinB a x) A ++ C := by
 have hj := joinB_level ha hx he hl
 exact ⟨⟨joinB_sound ha, hg, fun q hq => by have := hA q hq; omega, fun q hq => by have := hC q hq; omega⟩, ins_split (fun q hq => by have := hC q hq; omega)⟩
theorem good_out {A C : List Bk} {a : Bk} (h : Good (A ++ a :: C)) : Good (A ++ C) := h.sub (List.Sublist.append (List.Sublist.refl _) (List.sublist_cons_self _ _))
theorem Mrg.step {cur fin : List Bk} (h : Mrg cur fin) {i : Nat} {a b : Bk} (ha : cur[i]? = some a) (hb : cur[i + 1]? = some b) (he : a.f0 = b.f0) (hl : a.f1.length + b.f1.length < 1000000000) :
 Mrg (cur.take i ++ joinB a b :: cur.drop (i + 2)) fin := by
 rcases h with ⟨h, rfl⟩ | ⟨x, A, C, rfl, h, rfl⟩
 · obtain ⟨hi, rfl⟩ := List.getElem?_eq_some_iff.1 ha
   obtain ⟨hi', rfl⟩ := List.getElem?_eq_some_iff.1 hb
   have := List.pairwise_iff_getElem.1 h.desc i (i + 1) hi hi' (by omega)
   omega
 · obtain ⟨d1, d2, d3⟩ := desc_app.1 h.good.desc
   by_cases h1 : i + 1 < A.length
   · rw [List.getElem?_append_left (by omega)] at ha hb
     obtain ⟨hi, rfl⟩ := List.getElem?_eq_some_iff.1 ha
     obtain ⟨hi', rfl⟩ := List.getElem?_eq_some_iff.1 hb
     have := List.pairwise_iff_getElem.1 d1 i (i + 1) hi hi' (by omega)
     omega
   · by_cases h2 : i + 1 = A.length
     · 
       rcases List.eq_nil_or_concat A with rfl | ⟨A', a', rfl⟩
       · simp at h2
       · rw [List.concat_eq_append] at *
         have hi : i = A'.length := by simpa using h2
         subst hi
         obtain rfl : a' = a := by simpa using ha
         obtain rfl : x = b := by simpa using hb
         obtain ⟨e1, _, e3⟩ := desc_app.1 d1
         obtain ⟨k1, k2⟩ := cur_joined (x := x) (a := a') (A := A') (C := C) h.snd (h.good.snd a' (by simp)) he (by
          have := h.good
          rw [List.append_assoc] at this
          exact good_out this) (fun q hq => by have := e3 q hq a' (by simp); omega) (fun q hq => by have := d3 a' (by simp) q hq; omega) hl
         refine .inr ⟨joinB a' x, A', C, by simp, k1, ?_⟩
         rw [k2, ins_split (fun q hq => by have := d3 a' (by simp) q hq; omega), ins_eq he]
     · 
       obtain ⟨j, rfl⟩ : ∃ j, i = A.length + j := ⟨i - A.length, by omega⟩
       rw [List.getElem?_append_right (by omega), show A.length + j - A.length = j by omega] at ha
       rw [List.getElem?_append_right (by omega), show A.length + j + 1 - A.length = j + 1 by omega] at hb
       cases j with
       | zero =>
        obtain rfl : x = a := by simpa using ha
        cases C with
        | nil => simp at hb
        | cons c C =>
         obtain rfl : c = b := by simpa using hb
         obtain ⟨e1, e2⟩ := List.pairwise_cons.1 d2
         have hA : ∀ q ∈ A, x.f0 < q.f0 := fun q hq => by have := d3 q hq c (by simp); omega
         have hC : ∀ q ∈ C, q.f0 < x.f0 := fun q hq => by have := e1 q hq; omega
         obtain ⟨k1, k2⟩ := cur_joined (x := x) (a := c) (A := A) (C := C) h.snd (h.good.snd c (by simp)) he.symm (good_out h.good) hA hC (by omega)
         refine .inr ⟨joinB c x, A, C, by rw [joinB_comm x c]; simp, k1, ?_⟩
         rw [k2, show A ++ c :: C = (A ++ [c]) ++ C by simp, ins_split hC, ins_eq he.symm]
       | succ j =>
        rw [List.getElem?_cons_succ] at ha hb
        obtain ⟨hi, rfl⟩ := List.getElem?_eq_some_iff.1 ha
        obtain ⟨hi', rfl⟩ := List.getElem?_eq_some_iff.1 hb
        have := List.pairwise_iff_getElem.1 d2 j (j + 1) hi hi' (by omega)
        omega
theorem allB_append (a b : List Bk) : allB (a ++ b) = allB a ++ allB b := by simp [allB]
theorem allB_cons (a : Bk) (b : List Bk) : allB (a :: b) = a.f1 ++ allB b := by simp [allB]
theorem joinB_all (a b : Bk) : (joinB a b).f1.Perm (a.f1 ++ b.f1) := sortE_perm _
theorem insR_all : ∀ (r : List Bk) (x : Bk), (allB (insR x r)).Perm (x.f1 ++ allB r) := by
 intro r
 induction r with
 | nil => intro x; simp [insR, allB]
 | cons b r ih =>
  intro x
  rw [insR]
  split
  · rw [allB_cons, allB_cons]
    refine ((ih x).append_left _).trans ?_
    rw [← List.append_assoc, ← List.append_assoc]
    exact List.perm_append_comm.append_right _
  · split
    · refine (ih _).trans ?_
      rw [allB_cons, ← List.append_assoc]
      exact ((joinB_all b x).trans List.perm_append_comm).append_right _
    · rw [allB_cons]
theorem allB_reverse (r : List Bk) : (allB r.reverse).Perm (allB r) := (List.reverse_perm r).flatMap_right _
theorem ins_all (x : Bk) (bs : List Bk) : (allB (ins x bs)).Perm (x.f1 ++ allB bs) :=
 (allB_reverse _).trans ((insR_all _ _).trans ((allB_reverse bs).append_left _))
theorem Mrg.all {cur fin : List Bk} (h : Mrg cur fin) : (allB fin).Perm (allB cur) := by
 rcases h with ⟨h, rfl⟩ | ⟨x, A, C, rfl, h, rfl⟩
 · exact List.Perm.refl _
 · refine (ins_all _ _).trans ?_
   rw [allB_append, allB_append, allB_cons, ← List.append_assoc, ← List.append_assoc]
   exact List.perm_append_comm.append_right _
end Go.Proofs.Ytdfndglenbckhaa.V
end
section
set_option linter.unusedVariables false
set_option linter.unusedSimpArgs false
namespace Go.Proofs.Ytdfndglenbckhaa.V
open Go.RowKit Go.Proofs.YtdfndglenbckhaaW.PrintWords Go.Proofs.YtdfndglenbckhaaW.PrintLast Go.Proofs.YtdfndglenbckhaaW.PrintMore
def outB (id : Int) (b : Bk) : List E := b.f1.filter fun e => decide (e.f1 ≠ id)
end Go.Proofs.Ytdfndglenbckhaa.V
end
section
set_option linter.unusedVariables false
set_option linter.unusedSimpArgs false
namespace Go.Proofs.Ytdfndglenbckhaa.V
open Go.RowKit Go.Proofs.YtdfndglenbckhaaW.PrintWords Go.Proofs.YtdfndglenbckhaaW.PrintLast Go.Proofs.YtdfndglenbckhaaW.PrintMore
theorem reflevel_loop (n : Int) : ∀ (d k i : Nat), i + d = 62 → d < k → vergerref5_Level.l0 k n (i : Int) = some ((levGo d i n : Nat) : Int) := by
 intro d
 induction d with
 | zero =>
  intro k i hd hk
  obtain ⟨k, rfl, _⟩ := succ_of hk
  simp only [vergerref5_Level.l0]
  rw [if_neg (by omega)]
  rfl
 | succ d ih =>
  intro k i hd hk
  obtain ⟨k, rfl, hk'⟩ := succ_of hk
  simp only [vergerref5_Level.l0]
  rw [if_pos (by omega), if_pos (by omega), shl_one (by omega), wrap_nat (by omega), ih k (i + 1) (by omega) (by omega)]
  simp only [levGo]
  by_cases hc : (2 : Int) ^ i < n
  · rw [if_pos hc, if_pos hc]
  · rw [if_neg hc, if_neg hc]
theorem reflevel_told (k : Nat) (n : Int) (hk : 62 < k) : vergerref5_Level.f k n = some ((lev n : Nat) : Int) := reflevel_loop n 62 k 0 (by omega) hk
theorem refof_told (k : Nat) (l : List E) (hl : l.length < 1000000000) (hk : 2 * l.length + 63 ≤ k) : vergerref5_Of.f k l = some (((lev (l.length : Int) : Nat) : Int), sortE l) := by
 unfold vergerref5_Of.f
 rw [reflevel_told k _ (by omega)]
 simp only [Option.bind_some]
 rw [refsort_told k l hl (by omega)]
 rfl
end Go.Proofs.Ytdfndglenbckhaa.V
end
section
set_option linter.unusedVariables false
set_option linter.unusedSimpArgs false
namespace Go.Proofs.Ytdfndglenbckhaa.V
open Go.RowKit Go.Proofs.YtdfndglenbckhaaW.PrintWords Go.Proofs.YtdfndglenbckhaaW.PrintLast Go.Proofs.YtdfndglenbckhaaW.PrintMore
structure LsmAt (w : World) (base p : Nat) (v : Value) (bs : List Bk) : Prop where
  hd : w.heap[p]? = some (.cells #[v] 103 (0, 0))
  row : Kd.N k84 84 w base (fun k => k ≠ p) v bs
  lo : base ≤ p
structure Turn (w w' : World) (p : Nat) (v v' : Value) : Prop where
  os : w'.os = w.os
  tape : w'.tape = w.tape
  output : w'.output = w.output
  size : w.heap.size ≤ w'.heap.size
  block : ∀ i, i < w.heap.size → i ≠ p → some i ≠ v.ownBlock → w'.heap[i]? = w.heap[i]?
  own : v'.ownBlock = v.ownBlock ∨ v'.ownBlock = none ∨ ∃ b, v'.ownBlock = some b ∧ w.heap.size ≤ b
theorem Turn.refl (w : World) (p : Nat) (v : Value) : Turn w w p v v := ⟨rfl, rfl, rfl, Nat.le_refl _, fun _ _ _ _ => rfl, .inl rfl⟩
theorem Turn.trans {w w1 w2 : World} {p : Nat} {v v1 v2 : Value} (h : Turn w w1 p v v1) (k : Turn w1 w2 p v1 v2) : Turn w w2 p v v2 :=
 ⟨k.os.trans h.os, k.tape.trans h.tape, k.output.trans h.output, Nat.le_trans h.size k.size, fun i hi hp hv => by
  refine (k.block i (Nat.lt_of_lt_of_le hi h.size) hp ?_).trans (h.block i hi hp hv)
  rcases h.own with h1 | h1 | ⟨b, h1, h2⟩
  · rw [h1]; exact hv
  · rw [h1]; simp
  · rw [h1]; intro e; injection e with e; omega, by
  have hs := h.size
  rcases k.own with k1 | k1 | ⟨b, k1, k2⟩
  · rcases h.own with h1 | h1 | ⟨b, h1, h2⟩
    · exact .inl (k1.trans h1)
    · exact .inr (.inl (k1.trans h1))
    · exact .inr (.inr ⟨b, k1.trans h1, h2⟩)
  · exact .inr (.inl k1)
  · exact .inr (.inr ⟨b, k1, by omega⟩)⟩
theorem Turn.of_below {w w1 : World} (h : Below w.heap.size w w1) (p : Nat) (v : Value) : Turn w w1 p v v := ⟨h.os, h.tape, h.output, h.size, fun i hi _ _ => h.block i hi, .inl rfl⟩
theorem Turn.below {w0 w w1 : World} {base p : Nat} {v v1 : Value} (h : Turn w w1 p v v1) (hb : Below base w0 w) (hp : base ≤ p) (hs : base ≤ w.heap.size) (hv : ∀ k, v.ownBlock = some k → base ≤ k) : Below base w0 w1 :=
 ⟨h.os.trans hb.os, h.tape.trans hb.tape, h.output.trans hb.output, Nat.le_trans hb.size h.size, fun i hi => (h.block i (by omega) (by omega) (fun e => by have := hv i e.symm; omega)).trans (hb.block i hi)⟩
namespace LsmAt
variable {w w1 : World} {base p : Nat} {v : Value} {bs : List Bk}
theorem lt (h : LsmAt w base p v bs) : p < w.heap.size := (Array.getElem?_eq_some_iff.1 h.hd).1
theorem below (h : LsmAt w base p v bs) (hb : Below w.heap.size w w1) : LsmAt w1 base p v bs := ⟨(hb.block p h.lt).trans h.hd, Kd.N_below h.row hb, h.lo⟩
theorem cell (h : LsmAt w base p v bs) : w.cell? ⟨p, 0, none⟩ = some v := by simp [World.cell?, h.hd]
theorem own (h : LsmAt w base p v bs) : ∀ k, v.ownBlock = some k → base ≤ k ∧ k < w.heap.size ∧ k ≠ p := fun k hk => ⟨Kd.N_base h.row k hk, Kd.N_lt h.row k hk, h.row.1 k hk⟩
theorem reads (h : LsmAt w base p v bs) : ∃ A c, v = .slice A bs.length c ∧ bs.length ≤ c ∧ k84.C w A bs.length bs := Kd.N_reads h.row
end LsmAt
theorem bk_at {w : World} {A : Option Addr} {bs : List Bk} (h : k84.C w A bs.length bs) {i : Nat} {b : Bk} (hb : bs[i]? = some b) :
 ∃ ad A1 c1, A = some ad ∧ w.cell? (ad.add (i * 2)) = some (.int .i64 b.f0) ∧ w.cell? ⟨(ad.add (i * 2)).block, (ad.add (i * 2)).off + 1, none⟩ = some (.slice A1 b.f1.length c1) ∧ b.f1.length ≤ c1 ∧ k46.C w A1 b.f1.length b.f1 := by
 obtain ⟨hlt, rfl⟩ := List.getElem?_eq_some_iff.1 hb
 obtain ⟨ad, A1, c1, e1, e2, e3, e4, e5⟩ := at_T84 h (i : Int) (by omega) (by omega)
 have hr : rd_T84 bs (i : Int) = bs[i] := rdB_get hlt
 rw [hr, Int.toNat_natCast] at e2 e3
 rw [hr] at e4 e5
 exact ⟨ad, A1, c1, e1, e2, e3, e4, e5⟩
theorem allB_take' {bs : List Bk} {i : Nat} {b : Bk} (h : bs[i]? = some b) : allB (bs.take (i + 1)) = allB (bs.take i) ++ b.f1 := by
 obtain ⟨hlt, rfl⟩ := List.getElem?_eq_some_iff.1 h
 exact allB_take hlt
theorem allB_at_le {bs : List Bk} {i : Nat} {b : Bk} (h : bs[i]? = some b) : (allB (bs.take i)).length + b.f1.length ≤ (allB bs).length := by
 rw [← List.length_append, ← allB_take' h]; exact allB_take_le bs _
end Go.Proofs.Ytdfndglenbckhaa.V
end
section
set_option linter.unusedVariables false
set_option linter.unusedSimpArgs false
namespace Go.Proofs.Ytdfndglenbckhaa.V
open Go.RowKit Go.Proofs.YtdfndglenbckhaaW.PrintWords Go.Proofs.YtdfndglenbckhaaW.PrintLast Go.Proofs.YtdfndglenbckhaaW.PrintMore
theorem bk_elem {W : World} {base g n cap : Nat} {ok : Nat → Prop} {bs : List Bk} (h : Kd.N k84 84 W base ok (.slice (some ⟨g, 0, none⟩) n cap) bs) {i : Nat} {b : Bk} (hb : bs[i]? = some b) :
 ∃ A1 c1, W.cell? ⟨g, i * 2, none⟩ = some (.int .i64 b.f0) ∧ W.cell? ⟨g, i * 2 + 1, none⟩ = some (.slice A1 b.f1.length c1) ∧ b.f1.length ≤ c1 ∧ Kd.FK k84 W (fun k => ok k ∧ k ≠ g) b [.int .i64 b.f0, .slice A1 b.f1.length c1] ∧ ∀ j, W.frozen? ⟨g, i * 2 + j, none⟩ = false := by
 obtain ⟨hlt, rfl⟩ := List.getElem?_eq_some_iff.1 hb
 have hn := (Kd.N_reads' h).1
 obtain ⟨c, hcl, hK, hcc, hfr⟩ := Kd.N_elem h z84 (i : Int) (by omega) (by omega)
 have hg : bs.getD ((i : Int)).toNat z84 = bs[i] := by rw [Int.toNat_natCast, List.getD_eq_getElem?_getD, List.getElem?_eq_getElem hlt]; rfl
 rw [hg] at hK
 obtain ⟨A1, c1, rfl, l1, g1⟩ := k84_openF hK
 have hc : ∀ j u, ([.int .i64 bs[i].f0, .slice A1 bs[i].f1.length c1] : List Value)[j]? = some u → W.cell? ⟨g, i * 2 + j, none⟩ = some u := hcc
 exact ⟨A1, c1, hc 0 _ rfl, hc 1 _ rfl, l1, hK, hfr⟩
theorem bk_set {W : World} {base g n cap : Nat} {ok : Nat → Prop} {bs : List Bk} (h : Kd.N k84 84 W base ok (.slice (some ⟨g, 0, none⟩) n cap) bs) {i : Nat} (hi : i < bs.length) {b' : Bk} {u : Value} (hM : Kd.FK k84 W (fun k => ok k ∧ k ≠ g) b' [.int .i64 b'.f0, u]) :
 Kd.N k84 84 ((W.setCell ⟨g, i * 2, none⟩ (.int .i64 b'.f0)).setCell ⟨g, i * 2 + 1, none⟩ u) base ok (.slice (some ⟨g, 0, none⟩) n cap) (bs.set i b') := by
 have hn := (Kd.N_reads' h).1
 obtain ⟨c, hcl, hK, hcc, hfr⟩ := Kd.N_elem h z84 (i : Int) (by omega) (by omega)
 have hcl2 : c.length = 2 := hcl
 have h2 := (Kd.N_seg h (i : Int) (by omega) (by omega) (c := c) (seg := [.int .i64 b'.f0, u]) (j := 0) (x' := b') (okp := fun k => ok k ∧ k ≠ g) hcl hcc (by show 0 + 2 ≤ 2; omega) (by
  have h3 : c.drop (0 + ([.int .i64 b'.f0, u] : List Value).length) = [] := by apply List.drop_eq_nil_of_le; simp [hcl2]
  rw [h3]
  simpa using hM) (fun _ hk => hk)).1
 exact h2
theorem set2_grown {W : World} {g j1 j2 : Nat} {u1 u2 : Value} {w : World} (h : w.grownBy W (some g)) : w.grownBy ((W.setCell ⟨g, j1, none⟩ u1).setCell ⟨g, j2, none⟩ u2) (some g) :=
 ⟨h.os, h.tape, h.output, by simpa [World.setCell] using h.size, fun i hi hne => by
  have : i ≠ g := fun e => hne (by rw [e])
  rw [Below.heap_setCell _ ⟨g, j2, none⟩ _ _ this, Below.heap_setCell _ ⟨g, j1, none⟩ _ _ this]
  exact h.block i hi hne⟩
end Go.Proofs.Ytdfndglenbckhaa.V
end
section
set_option linter.unusedVariables false
set_option linter.unusedSimpArgs false
namespace Go.Proofs.Ytdfndglenbckhaa.V
open Go.RowKit Go.Proofs.YtdfndglenbckhaaW.PrintWords Go.Proofs.YtdfndglenbckhaaW.PrintLast Go.Proofs.YtdfndglenbckhaaW.PrintMore
theorem froz_below {w w1 : World} (hb : Below w.heap.size w w1) {g j : Nat} (hg : g < w.heap.size) (h : w.frozen? ⟨g, j, none⟩ = false) : w1.frozen? ⟨g, j, none⟩ = false := by
 unfold World.frozen? at *
 rw [hb.block g hg]
 exact h
end Go.Proofs.Ytdfndglenbckhaa.V
end
section
set_option linter.unusedVariables false
set_option linter.unusedSimpArgs false
namespace Go.Proofs.Ytdfndglenbckhaa.V
open Go.RowKit Go.Proofs.YtdfndglenbckhaaW.PrintWords Go.Proofs.YtdfndglenbckhaaW.PrintLast Go.Proofs.YtdfndglenbckhaaW.PrintMore
section
variable {P : Program} {ops : Array Oper} {rest : List Oper} {o : Oper} {a : Act} {Q : Exit → Act → World → Prop}
theorem wpList_clear_run (w : World) (hgd : o.guard = none) (x : Operand) (t : TypeId) (ho : o.op = .call { callee := .builtin .clear, args := #[x], argTypes := #[t] }) (v : Value) (hx : a.eval x = v) {v' : Value} {w' : World}
 (hr : (Builtin.clear_ #[t] o.type #[v]).run P w = .ok v' w') (h : wpList P ops Q rest (a.put o.dst v') w') : wpList P ops Q (o :: rest) a w :=
 wpList_plain hgd fun K hK => by
  unfold Oper.wp
  simp [execOp, ho, resolve, invoke, builtin, hx, hr, Result.andThen]
  exact hK _ _ h
theorem wpList_append_run (w : World) (hgd : o.guard = none) (s x : Operand) (t : TypeId) (ho : o.op = .call { callee := .builtin .append, args := #[s, x], argTypes := #[t, t] }) (v u : Value) (hs : a.eval s = v) (hx : a.eval x = u) {v' : Value} {w' : World}
 (hr : (Builtin.append_ #[t, t] o.type #[v, u]).run P w = .ok v' w') (h : wpList P ops Q rest (a.put o.dst v') w') : wpList P ops Q (o :: rest) a w :=
 wpList_plain hgd fun K hK => by
  unfold Oper.wp
  simp [execOp, ho, resolve, invoke, builtin, hs, hx, hr, Result.andThen]
  exact hK _ _ h
end
theorem flat_len {rows : List (List Value)} (h : ∀ c ∈ rows, c.length = 2) : rows.flatten.length = rows.length * 2 := by
 induction rows with
 | nil => rfl
 | cons c r ih => rw [List.flatten_cons, List.length_append, h c (by simp), ih (fun q hq => h q (by simp [hq])), List.length_cons]; omega
theorem bk_open {W : World} {base g n cap : Nat} {ok : Nat → Prop} {bs : List Bk} (h : Kd.N k84 84 W base ok (.slice (some ⟨g, 0, none⟩) n cap) bs) :
 ∃ (cur : Array Value) (rows : List (List Value)) (T : List Value), W.heap[g]? = some (.cells cur 84 (0, 0)) ∧ cur.size = cap * 2 ∧ n ≤ cap ∧ cap ≤ 9223372036854775807 ∧ base ≤ g ∧ ok g ∧ rows.length = bs.length ∧ (∀ c ∈ rows, c.length = 2 ∧ ∀ u ∈ c, u.oneCell' = true) ∧ cur.toList = rows.flatten ++ T ∧
  ∀ (j : Nat) (b : Bk) (c : List Value), bs[j]? = some b → rows[j]? = some c → Kd.FK k84 W (fun k => ok k ∧ k ≠ g) b c := by
 have hn := (Kd.N_reads' h).1
 obtain ⟨hok, rows, hl, ⟨_, inner, ⟨h1, h2⟩, hr⟩, hf⟩ := h
 have hown : (Value.slice (some ⟨g, 0, none⟩) n cap).ownBlock = some g := rfl
 have hrow : ∀ c ∈ rows, c.length = 2 ∧ ∀ u ∈ c, u.oneCell' = true := by
  intro c hc
  obtain ⟨j, hj, rfl⟩ := List.getElem_of_mem hc
  have := hr.2 j _ (List.getElem?_eq_getElem hj)
  obtain ⟨e1, e2, e3⟩ := this
  rw [e1] at e2 e3
  exact ⟨e2, e3⟩
 have hfl : inner = rows.flatten := by
  have : ∀ (rows : List (List Value)) (inner : List Value), inner.length = rows.length * 2 → (∀ (j : Nat) (c : List Value), rows[j]? = some c → c = (inner.drop (j * 2)).take 2) → inner = rows.flatten := by
   intro rows
   induction rows with
   | nil => intro inner hi _; exact List.length_eq_zero_iff.1 (by simpa using hi)
   | cons c r ih =>
    intro inner hi hc
    have h0 := hc 0 c rfl
    rw [Nat.zero_mul, List.drop_zero] at h0
    rw [List.flatten_cons, ← ih (inner.drop 2) (by rw [List.length_drop, hi, List.length_cons]; omega) (fun j d hd => by
     have := hc (j + 1) d hd
     rw [List.drop_drop]
     rwa [Nat.succ_mul, Nat.add_comm (j * 2) 2] at this), h0, List.take_append_drop]
  refine this rows inner hr.1 (fun j c hc => ?_)
  exact (hr.2 j c hc).1.symm
 rcases h2 with ⟨he, h0⟩ | ⟨g', cap', cur, he, hb, hh, hnc, hcm, hcs, ht⟩
 · cases he
 · injection he with ha hn' hc
   injection ha with ha
   injection ha with ha
   subst ha; subst hc
   refine ⟨cur, rows, cur.toList.drop (rows.length * 2), hh, hcs, by omega, by unfold maxLen at hcm; omega, hb, hok _ rfl, hl, hrow, ?_, ?_⟩
   · have ht' : cur.toList.take (rows.length * 2) = inner := ht
     rw [← hfl, ← ht', List.take_append_drop]
   · intro j b c hb hc
     exact Kd.FK_mono (hf j b c hb hc) (fun k hk => ⟨hk.1, fun e => hk.2 (by rw [e, hown])⟩)
theorem bk_close {W : World} {base g n cap : Nat} {ok : Nat → Prop} {bs : List Bk} {cur : Array Value} {rows : List (List Value)} {T : List Value} (hh : W.heap[g]? = some (.cells cur 84 (0, 0))) (hs : cur.size = cap * 2) (hn : n ≤ cap) (hc : cap ≤ 9223372036854775807) (hb : base ≤ g) (hok : ok g)
 (hl : rows.length = bs.length) (hnb : n = bs.length) (hrow : ∀ c ∈ rows, c.length = 2 ∧ ∀ u ∈ c, u.oneCell' = true) (ht : cur.toList = rows.flatten ++ T)
 (hf : ∀ (j : Nat) (b : Bk) (c : List Value), bs[j]? = some b → rows[j]? = some c → Kd.FK k84 W (fun k => ok k ∧ k ≠ g) b c) :
 Kd.N k84 84 W base ok (.slice (some ⟨g, 0, none⟩) n cap) bs := by
 have hown : (Value.slice (some ⟨g, 0, none⟩) n cap).ownBlock = some g := rfl
 have hfl := flat_len (fun c hc => (hrow c hc).1)
 refine ⟨fun k hk => (by simpa [Value.ownBlock] using hk : g = k) ▸ hok, rows, hl, ⟨fun k hk => hk.symm, rows.flatten, ⟨hfl, .inr ⟨g, cap, cur, ?_, hb, hh, by omega, by unfold maxLen; omega, hs, ?_⟩⟩, ⟨hfl, fun j c hj => ?_⟩⟩, fun j b c hb hc => ?_⟩
 · rw [show rows.length = n by omega]
 · show cur.toList.take (rows.length * 2) = _
   rw [ht, List.take_append_of_le_length (by omega), List.take_of_length_le (by omega)]
 · obtain ⟨hjl, rfl⟩ := List.getElem?_eq_some_iff.1 hj
   have hd : rows.flatten = (rows.take j).flatten ++ (rows[j] ++ (rows.drop (j + 1)).flatten) := by
    conv => lhs; rw [← List.take_append_drop j rows, List.flatten_append, List.drop_eq_getElem_cons hjl, List.flatten_cons]
   have hlen : (rows.take j).flatten.length = j * 2 := by
    rw [flat_len (fun c hc => (hrow c (List.mem_of_mem_take hc)).1), List.length_take]
    omega
   have hch : (rows.flatten.drop (j * 2)).take 2 = rows[j] := by
    rw [hd, List.drop_append_of_le_length (by omega), List.drop_of_length_le (by omega), List.nil_append, List.take_append_of_le_length (by rw [(hrow _ (List.getElem_mem hjl)).1]; omega), List.take_of_length_le (by rw [(hrow _ (List.getElem_mem hjl)).1]; omega)]
   have h2 := hrow _ (List.getElem_mem hjl)
   rw [← hch] at h2
   exact ⟨hch, h2.1, h2.2⟩
 · exact Kd.FK_mono (hf j b c hb hc) (fun k hk => ⟨hk.1, fun e => hk.2 (by rw [hown] at e; injection e)⟩)
theorem zeroB : ∀ w, (zeroValue 84).run Try.prog w = .ok (.agg #[.int .i64 0, .slice none 0 0]) w := by
 intro w
 have h : (Try.prog.info? 84).bind (fun i => i.zero) = some (.agg #[.int .i64 0, .slice none 0 0]) := by kernel_rfl
 obtain ⟨i, hi, hz⟩ := Option.bind_eq_some_iff.1 h
 simp [zeroValue, typeInfo, hi, hz]
theorem run_clear_one (w : World) (g o c : Nat) (ty : TypeId) (cur : Array Value) (hg : w.heap[g]? = some (.cells cur 84 (0, 0))) (ho : o + 2 ≤ cur.size) :
 (Builtin.clear_ #[34] ty #[.slice (some ⟨g, o, none⟩) 1 c]).run Try.prog w = .ok (.tuple #[]) (w.setCells g o [.int .i64 0, .slice none 0 0]) := by
 have hst := run_storeCells_cells (P := Try.prog) g o [.int .i64 0, .slice none 0 0] 0 w
  (by intro j hj; rw [cell_row hg]; simp at hj; simp; omega) (by intro j hj; exact frozen_row hg _) (by intro v hv; simp at hv; rcases hv with rfl | rfl <;> rfl)
 simp only [Nat.add_zero] at hst
 have hzc : (Builtin.zeroCells (Value.agg #[.int .i64 0, .slice none 0 0]).cells 1).toList = [.int .i64 0, .slice none 0 0] := by
  simp [Builtin.zeroCells, Value.cells, Array.toList_map, Array.toList_range, List.range, List.range.loop]
 simp [Builtin.clear_, run_underlying Try.underlying34, zeroB, hzc, hst]
end Go.Proofs.Ytdfndglenbckhaa.V
end
section
set_option linter.unusedVariables false
set_option linter.unusedSimpArgs false
namespace Go.Proofs.Ytdfndglenbckhaa.V
open Go.RowKit Go.Proofs.YtdfndglenbckhaaW.PrintWords Go.Proofs.YtdfndglenbckhaaW.PrintLast Go.Proofs.YtdfndglenbckhaaW.PrintMore
structure OnlyG (w W : World) (g : Nat) : Prop where
  os : W.os = w.os
  tape : W.tape = w.tape
  output : W.output = w.output
  size : W.heap.size = w.heap.size
  other : ∀ k, k ≠ g → W.heap[k]? = w.heap[k]?
namespace OnlyG
variable {w W : World} {g : Nat}
theorem refl (w : World) (g : Nat) : OnlyG w w g := ⟨rfl, rfl, rfl, rfl, fun _ _ => rfl⟩
theorem drew (h : OnlyG w W g) : OnlyG w W.drew g := ⟨h.os, h.tape, h.output, h.size, h.other⟩
theorem drewN (h : OnlyG w W g) (m : Nat) : OnlyG w (W.drewN m) g := ⟨h.os, h.tape, h.output, h.size, h.other⟩
theorem setRow (h : OnlyG w W g) (cs : Array Value) : OnlyG w (W.setRow g cs) g := ⟨h.os, h.tape, h.output, by simp [World.setRow, h.size], fun k hk => (setRow_other _ _ _ _ hk).trans (h.other k hk)⟩
theorem setCell (h : OnlyG w W g) (j : Nat) (u : Value) : OnlyG w (W.setCell ⟨g, j, none⟩ u) g := ⟨h.os, h.tape, h.output, by simp [World.setCell, h.size], fun k hk => (Below.heap_setCell W ⟨g, j, none⟩ u k hk).trans (h.other k hk)⟩
theorem set2 (h : OnlyG w W g) (j : Nat) (u v : Value) : OnlyG w (W.setCells g j [u, v]) g := (h.setCell j u).setCell (j + 1) v
theorem grown (h : OnlyG w W g) : w.grownBy W (some g) := ⟨h.os, h.tape, h.output, by rw [h.size]; exact Nat.le_refl _, fun i _ hne => h.other i (fun e => hne (by rw [e]))⟩
end OnlyG
theorem set2_row {W : World} {g o : Nat} {cur : Array Value} {t : TypeId} {u v : Value} (h : W.heap[g]? = some (.cells cur t (0, 0))) : (W.setCells g o [u, v]).heap[g]? = some (.cells ((cur.setIfInBounds o u).setIfInBounds (o + 1) v) t (0, 0)) :=
 blk_put (blk_put h o u rfl) (o + 1) v rfl
theorem set2_list (X T : List Value) (u v : Value) : ∃ T', ((((X ++ T).toArray.setIfInBounds X.length u).setIfInBounds (X.length + 1) v)).toList = X ++ T' := by
 refine ⟨(T.set 0 u).set 1 v, ?_⟩
 simp only [List.setIfInBounds_toArray]
 rw [List.set_append_right _ _ (Nat.le_refl _), Nat.sub_self, List.set_append_right _ _ (by omega), show X.length + 1 - X.length = 1 by omega]
theorem bk_final {w W : World} {base g n cap : Nat} {ok : Nat → Prop} {bs : List Bk} {cur : Array Value} {rows : List (List Value)} {T : List Value} (ho : OnlyG w W g) (hh : W.heap[g]? = some (.cells cur 84 (0, 0))) (hs : cur.size = cap * 2) (hn : n ≤ cap) (hc : cap ≤ 9223372036854775807) (hb : base ≤ g) (hok : ok g)
 (hl : rows.length = bs.length) (hnb : n = bs.length) (hrow : ∀ c ∈ rows, c.length = 2 ∧ ∀ u ∈ c, u.oneCell' = true) (ht : cur.toList = rows.flatten ++ T)
 (hf : ∀ (j : Nat) (b : Bk) (c : List Value), bs[j]? = some b → rows[j]? = some c → Kd.FK k84 w (fun k => ok k ∧ k ≠ g) b c) :
 Kd.N k84 84 W base ok (.slice (some ⟨g, 0, none⟩) n cap) bs :=
 bk_close hh hs hn hc hb hok hl hnb hrow ht (fun j b c h1 h2 => Kd.FK_step (hf j b c h1 h2) (fun k hk _ => ho.other k hk.2))
end Go.Proofs.Ytdfndglenbckhaa.V
end
section
set_option linter.unusedVariables false
set_option linter.unusedSimpArgs false
namespace Go.Proofs.Ytdfndglenbckhaa.V
open Go.RowKit Go.Proofs.YtdfndglenbckhaaW.PrintWords Go.Proofs.YtdfndglenbckhaaW.PrintLast Go.Proofs.YtdfndglenbckhaaW.PrintMore
theorem two_boxes (w : World) (o1 o2 : Obj) : ((w.alloc o1).alloc o2).drew.heap[w.heap.size]? = some o1 ∧ ((w.alloc o1).alloc o2).drew.heap[w.heap.size + 1]? = some o2 ∧ Below w.heap.size w ((w.alloc o1).alloc o2).drew := by
 refine ⟨heap_alloc2_old w o1 o2, ?_, below_drew (below_alloc (below_alloc (Below.refl _ _) _) _)⟩
 have := heap_alloc_new (w.alloc o1) o2
 rwa [World.size_alloc] at this
end Go.Proofs.Ytdfndglenbckhaa.V
end
section
set_option linter.unusedVariables false
set_option linter.unusedSimpArgs false
namespace Go.Proofs.Ytdfndglenbckhaa.V
open Go.RowKit Go.Proofs.YtdfndglenbckhaaW.PrintWords Go.Proofs.YtdfndglenbckhaaW.PrintLast Go.Proofs.YtdfndglenbckhaaW.PrintMore
section
variable {P : Program} {ops : Array Oper} {Q : Exit → Act → World → Prop}
theorem gate_step {o : Oper} {a : Act} {w : World} {K : Act → World → Prop} {X : Prop} (c : Op) (_ : o.op = c) (h : if Region.wanted o (yielded ops a.tmps) = true then Oper.wp P o a w K Q else X) : if Region.wanted o (yielded ops a.tmps) = true then Oper.wp P o a w K Q else X := h
end
theorem infoB : (Try.prog.info? 84).map (fun i => (i.zero, i.size, i.bytes)) = some (some (.agg #[.int .i64 0, .slice none 0 0]), 2, 32) := by kernel_rfl
theorem fk_new {W : World} {N c : Nat} {A : Option Addr} {b : Bk} {base : Nat} {ok : Nat → Prop} (h : Kd.V k46 46 W base (fun k => N ≤ k) (.slice A b.f1.length c) b.f1) (hok : ∀ k, N ≤ k → ok k) :
 Kd.FK k84 W ok b [.int .i64 b.f0, .slice A b.f1.length c] := by
 obtain ⟨_, h2, h3⟩ := Kd.V_at h
 exact k84_mkF W _ b h2 (Kd.F_mono h3 hok)
end Go.Proofs.Ytdfndglenbckhaa.V
end
