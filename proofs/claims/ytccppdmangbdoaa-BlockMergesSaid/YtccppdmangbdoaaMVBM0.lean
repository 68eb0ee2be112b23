-- a text of this work, without what this claim doesn't use (wip/shake.py)
import Derived.Test.YtccppdmangbdoaaMVE31
import Derived.Test.YtccppdmangbdoaaMVPentry1
import Derived.Test.YtccppdmangbdoaaMVPentry
import Derived.Test.YtccppdmangbdoaaMVP5T
import Derived.Test.YtccppdmangbdoaaMVPslicesZb
import Derived.Test.YtccppdmangbdoaaMVXGrow
import Derived.Test.YtccppdmangbdoaaMVPblock
import Derived.Test.YtccppdmangbdoaaMVPblockb
import Derived.Laws.Bits64b
import Derived.Test.YtccppdmangbdoaaMVCall
import Derived.IntWalk
import Derived.Test.YtccppdmangbdoaaMVPawakeLb
import Derived.Test.YtccppdmangbdoaaMVPvergerref5
section
namespace Go.Proofs.Ytccppdmangbdoaa.V
open Go.RowKit Go.Proofs.YtccppdmangbdoaaW.PrintWords Go.Proofs.YtccppdmangbdoaaW.PrintLast Go.Proofs.YtccppdmangbdoaaW.PrintMore
attribute [local go_sem] max2_int min2_int max_two min_two max_three min_three max_four min_four
set_option linter.unusedVariables false
set_option linter.unusedSimpArgs false
def vergerlaw6_has.l0 : Nat → List Int → Int → Int → Option (Bool)
  | 0, _, _, _ => none
  | k + 1, x0, x1, x5 => if x5 < (x0.length : Int) then (if 0 ≤ x5 then (if (rd x0 x5) = x1 then (some true) else (vergerlaw6_has.l0 k x0 x1 (wrap64 (x5 + 1)))) else (none)) else (some false)
def vergerlaw6_has.f (k : Nat) (l0 : List Int) (a1 : Int) : Option (Bool) := vergerlaw6_has.l0 k l0 a1 0
set_option maxHeartbeats 8000000 in
set_option maxRecDepth 100000 in
theorem vergerlaw6_has.calls (k : Nat) (A0 : Option Addr) (c0 : Nat) (l0 : List Int) (a1 : Int) (r : Bool) (w : World) (hr0 : Kd.C (Kd.int .i64) w A0 l0.length l0) (hc0 : l0.length ≤ c0) (h : vergerlaw6_has.f k l0 a1 = some r) :
 Calls Try.prog 32 #[.slice A0 l0.length c0, .int .i64 a1] w fun e w' => e = .returned (.bool r) ∧ Drawn0 w w' := by
 have HR0 := Aside0.mk hr0; have HC0 := Aside0.mk hc0; clear hr0 hc0; have H : (vergerlaw6_has.l0 k l0 a1 0) = some r := h; clear h; have H' := Aside0.mk H; clear H; go_enter Try.func32, Try.ntmps32
 go_wp2
 go_loopg [5] k (fun kq v5 w' => ∃ (x5_1 : Int), v5 = .int .i64 x5_1 ∧ Aside0 (vergerlaw6_has.l0 kq l0 a1 x5_1 = some r) ∧ Aside0 (kq ≤ k) ∧ Drawn0 w w')
 case atStart => exact ⟨(0), (by first | rfl | (simp; done) | (simp [*]; done)), H', ⟨vw _⟩, by repeat (first | exact xc _ | apply xb)⟩
 case round =>
  clear H'
  try clear p2
  obtain ⟨x5_1, rfl, HA, HK1, ⟨m1, rfl⟩⟩ := hrel
  cases gk with
  | zero => exact absurd HA.out (by simp [vergerlaw6_has.l0])
  | succ k1 =>
   have H := HA.out; clear HA; simp only [vergerlaw6_has.l0] at H
   by_cases c3 : x5_1 < (l0.length : Int)
   · rw [if_pos c3] at H; have c3b0 : decide (x5_1 < (l0.length : Int)) = true := decide_eq_true c3; clear c3
     by_cases c4 : 0 ≤ x5_1
     · rw [if_pos c4] at H; have c4b0 : decide (0 ≤ x5_1) = true := decide_eq_true c4; clear c4
       by_cases c5 : (rd l0 x5_1) = a1
       · rw [if_pos c5] at H; have c5b0 : ((rd l0 x5_1) == a1) = true := beq_iff_eq.mpr c5; have c5b1 : ((rd l0 x5_1) != a1) = false := bne_eq_false_iff_eq.mpr c5; clear c5; obtain rfl := Option.some.inj H; have p101 : 0 ≤ (x5_1 : Int) := ug (by first | (with_reducible assumption) | assumption); have q101 : x5_1 < (l0.length : Int) := ug (by first | (with_reducible assumption) | assumption); obtain ⟨ad101, e101, hx101_0⟩ := Kd.at_int HR0.out x5_1 p101 q101
         cases e101
         replace p101 := eq_true p101; replace q101 := eq_true q101
         go_wp2
         go_ret
         exact ⟨by first | rfl | (simp; done) | (simp [*]; done), by repeat (first | exact xc _ | apply xb)⟩
       · rw [if_neg c5] at H; have c5b0 : ((rd l0 x5_1) == a1) = false := beq_eq_false_iff_ne.mpr c5; have c5b1 : ((rd l0 x5_1) != a1) = true := bne_iff_ne.mpr c5; have H' := Aside0.mk H; clear H; have p101 : 0 ≤ (x5_1 : Int) := ug (by first | (with_reducible assumption) | assumption); have q101 : x5_1 < (l0.length : Int) := ug (by first | (with_reducible assumption) | assumption); obtain ⟨ad101, e101, hx101_0⟩ := Kd.at_int HR0.out x5_1 p101 q101
         cases e101
         replace p101 := eq_true p101; replace q101 := eq_true q101
         go_wp2
         go_roundg k1
         case measure => have := HK1.out; omega
         case rel => exact ⟨(wrap64 (x5_1 + 1)), (by first | rfl | (simp; done) | (simp [*]; done)), H', ⟨by have := HK1.out; omega⟩, by repeat (first | exact xc _ | apply xb)⟩
     · rw [if_neg c4] at H; exact absurd H (by simp)
   · rw [if_neg c3] at H; have c3b0 : decide (x5_1 < (l0.length : Int)) = false := decide_eq_false c3; clear c3; obtain rfl := Option.some.inj H
     go_wp2
     go_ret
     exact ⟨by first | rfl | (simp; done) | (simp [*]; done), by repeat (first | exact xc _ | apply xb)⟩
end Go.Proofs.Ytccppdmangbdoaa.V
end
section
set_option linter.unusedVariables false
set_option linter.unusedSimpArgs false
namespace Go.Proofs.Ytccppdmangbdoaa.V
open Go.RowKit Go.Proofs.YtccppdmangbdoaaW.PrintWords Go.Proofs.YtccppdmangbdoaaW.PrintLast Go.Proofs.YtccppdmangbdoaaW.PrintMore
theorem same_loop (l : List E) (hl : l.length < 1000000000) : ∀ (d k i : Nat), l.length - i = d → i ≤ l.length → d < k → vergerref5_Same.l0 k l l (i : Int) = some true := by
 intro d
 induction d with
 | zero =>
  intro k i hd hi hk
  obtain ⟨k, rfl, _⟩ := succ_of hk
  simp only [vergerref5_Same.l0]
  rw [if_neg (by omega)]
 | succ d ih =>
  intro k i hd hi hk
  obtain ⟨k, rfl, hk'⟩ := succ_of hk
  have hz : (i : Int) < (l.length : Int) := by omega
  have h0 : (0 : Int) ≤ (i : Int) := by omega
  simp only [vergerref5_Same.l0, if_pos hz, if_pos h0, wrap_nat (show i ≤ 4611686018427387904 by omega)]
  rw [if_neg (by simp)]
  exact ih k (i + 1) (by omega) (by omega) (by omega)
theorem same_told (k : Nat) (l : List E) (hl : l.length < 1000000000) (hk : l.length < k) : vergerref5_Same.f k l l = some true := by
 unfold vergerref5_Same.f
 rw [if_pos rfl]
 exact same_loop l hl l.length k 0 (by omega) (by omega) hk
def downAt (l : List E) (j : Nat) : Bool := ltE (l.getD (j + 1) z31) (l.getD j z31)
def okTo (l : List E) : Nat → Bool
  | 0 => true
  | n + 1 => okTo l n && !downAt l n
theorem okTo_iff (l : List E) (n : Nat) : okTo l n = true ↔ ∀ j, j < n → downAt l j = false := by
 induction n with
 | zero => simp [okTo]
 | succ n ih =>
  simp only [okTo, Bool.and_eq_true, ih, Bool.not_eq_true']
  constructor
  · intro h j hj
    rcases Nat.lt_succ_iff_lt_or_eq.1 hj with h1 | h1
    · exact h.1 j h1
    · subst h1; exact h.2
  · intro h
    exact ⟨fun j hj => h j (by omega), h n (by omega)⟩
theorem issorted_loop (l : List E) (hl : l.length < 1000000000) : ∀ (i k : Nat), i < l.length → i + 4 ≤ k → api_Entry_46.l0 k l (i : Int) = some (okTo l i) := by
 intro i
 induction i with
 | zero =>
  intro k hi hk
  obtain ⟨k, rfl, _⟩ := succ_of (show 0 < k by omega)
  simp only [api_Entry_46.l0]
  rw [if_neg (by omega)]
  rfl
 | succ i ih =>
  intro k hi hk
  obtain ⟨k, rfl, _⟩ := succ_of (show 0 < k by omega)
  have h0 : ((i + 1 : Nat) : Int) > 0 := by omega
  have h1 : (0 : Int) ≤ ((i + 1 : Nat) : Int) := by omega
  have h2 : ((i + 1 : Nat) : Int) < (l.length : Int) := by omega
  have hw : wrap64 (((i + 1 : Nat) : Int) - 1) = (i : Int) := by rw [wsub1 (by omega) (by omega)]; omega
  have h3 : (0 : Int) ≤ (i : Int) := by omega
  have h4 : (i : Int) < (l.length : Int) := by omega
  simp only [api_Entry_46.l0, if_pos h0, if_pos h1, if_pos h2, hw, if_pos h3, if_pos h4, compare_told k (show 3 ≤ k by omega), Option.bind_some, rd_nat]
  by_cases hc : downAt l i = true
  · rw [if_pos ((cmpE_neg _ _).2 hc)]
    simp only [okTo, hc]
    simp
  · rw [if_neg (fun h => hc ((cmpE_neg _ _).1 h)), ih k (by omega) (by omega)]
    simp only [okTo]
    simp [hc]
theorem issorted_told (k : Nat) (l : List E) (hl : l.length < 1000000000) (hk : l.length + 4 ≤ k) : entry_Sorted.f k l = some (okTo l (l.length - 1)) := by
 unfold entry_Sorted.f api_Entry_46.f
 by_cases hn : l.length = 0
 · rw [hn]
   obtain ⟨k, rfl, _⟩ := succ_of (show 0 < k by omega)
   have hw : wrap64 (((0 : Nat) : Int) - 1) = -1 := wrap_id (by omega) (by omega)
   rw [hw]
   simp [api_Entry_46.l0, okTo]
 · rw [wsub1 (by omega) (by omega), issorted_loop l hl (l.length - 1) k (by omega) (by omega)]
   rfl
theorem okTo_sorted {l : List E} (h : SortedE l) : okTo l (l.length - 1) = true := by
 rw [okTo_iff]
 intro j hj
 unfold downAt
 have h1 : j + 1 < l.length := by omega
 have h2 : j < l.length := by omega
 simp only [List.getD_eq_getElem?_getD, List.getElem?_eq_getElem h1, List.getElem?_eq_getElem h2, Option.getD_some]
 have := sorted_get h (show j < j + 1 by omega) (List.getElem?_eq_getElem h2) (List.getElem?_eq_getElem h1)
 simpa [leE] using this
theorem okTo_sorted' {l : List E} {n : Nat} (h : SortedE l) (hn : l.length = n) : okTo l (n - 1) = true := by subst hn; exact okTo_sorted h
end Go.Proofs.Ytccppdmangbdoaa.V
end
section
set_option linter.unusedVariables false
set_option linter.unusedSimpArgs false
namespace Go.Proofs.Ytccppdmangbdoaa.V
open Go.RowKit Go.Proofs.YtccppdmangbdoaaW.PrintWords Go.Proofs.YtccppdmangbdoaaW.PrintLast Go.Proofs.YtccppdmangbdoaaW.PrintMore
theorem concat_told (k : Nat) (hk : 10 ≤ k) (l m : List E) (hl : l.length + m.length < 1000000000) : api_Entry_40.f k [l, m] = some (l ++ m) := by
 obtain ⟨k, rfl⟩ : ∃ q, k = q + 10 := ⟨k - 10, by omega⟩
 have r0 : rd_L5 [l, m] 0 = l := rfl
 have r1 : rd_L5 [l, m] 1 = m := rfl
 have e1 : wrap64 (0 + 1) = 1 := wrap_id (by omega) (by omega)
 have e2 : wrap64 (1 + 1) = 2 := wrap_id (by omega) (by omega)
 have s1 : wrap64 (0 + (l.length : Int)) = (l.length : Int) := by rw [wrap_id (by omega) (by omega)]; omega
 have s2 : wrap64 ((l.length : Int) + (m.length : Int)) = ((l.length + m.length : Nat) : Int) := wadd (by omega)
 have n1 : ¬ (l.length : Int) < 0 := by omega
 have n2 : ¬ ((l.length + m.length : Nat) : Int) < 0 := by omega
 have n3 : (0 : Int) < (([l, m] : List (List E)).length : Int) := by simp
 have n4 : (1 : Int) < (([l, m] : List (List E)).length : Int) := by simp
 have n5 : ¬ (2 : Int) < (([l, m] : List (List E)).length : Int) := by simp
 have z1 : (0 : Int) ≤ 1 := by decide
 have z0 : (0 : Int) ≤ 0 := by decide
 have g : api_Entry_48.f [] ((l.length + m.length : Nat) : Int) = some [] := if_pos ⟨rfl, by omega, by omega⟩
 have b1 : ([] : List E).length + l.length < 8796093022208 := by simp; omega
 have b2 : (([] : List E) ++ l).length + m.length < 8796093022208 := by simp; omega
 unfold api_Entry_40.f
 simp only [api_Entry_40.l0, if_pos n3, if_pos n4, if_neg n5, if_pos z0, if_pos z1, r0, r1, s1, if_neg n1, e1, s2, if_neg n2, e2, g, Option.bind_some, api_Entry_40.l1, if_pos b1, if_pos b2]
 simp
end Go.Proofs.Ytccppdmangbdoaa.V
end
section
set_option linter.unusedVariables false
set_option linter.unusedSimpArgs false
namespace Go.Proofs.Ytccppdmangbdoaa.V
open Go.RowKit Go.Proofs.YtccppdmangbdoaaW.PrintWords Go.Proofs.YtccppdmangbdoaaW.PrintLast Go.Proofs.YtccppdmangbdoaaW.PrintMore
def levGo : Nat → Nat → Int → Nat
  | 0, i, _ => i
  | d + 1, i, n => if (2 : Int) ^ i < n then levGo d (i + 1) n else i
def lev (n : Int) : Nat := levGo 62 0 n
theorem pow2_pos (i : Nat) : (0 : Int) < 2 ^ i := Int.pow_pos (by decide)
theorem pow2_lt : ∀ (i : Nat), i ≤ 62 → (2 : Int) ^ i ≤ 4611686018427387904 := by
 intro i hi
 have : (2 : Int) ^ i ≤ 2 ^ 62 := by
  have h : (2 : Nat) ^ i ≤ 2 ^ 62 := Nat.pow_le_pow_right (by decide) hi
  exact_mod_cast h
 simpa using this
theorem shl_one {i : Nat} (h : i ≤ 62) : shl .i64 1 (i : Int) = 2 ^ i := by
 unfold shl
 have h1 : min ((i : Int)).toNat IntKind.i64.bits = i := by show min _ 64 = i; omega
 rw [h1, Int.one_mul]
 have h2 := pow2_pos i
 have h3 := pow2_lt i h
 rw [i64_w]
 exact wrap_id (by omega) (by omega)
theorem level_loop (n : Int) : ∀ (d k i : Nat), i + d = 62 → d < k → block_Level.l0 k n (i : Int) = some ((levGo d i n : Nat) : Int) := by
 intro d
 induction d with
 | zero =>
  intro k i hd hk
  obtain ⟨k, rfl, _⟩ := succ_of hk
  simp only [block_Level.l0]
  rw [if_neg (by omega)]
  rfl
 | succ d ih =>
  intro k i hd hk
  obtain ⟨k, rfl, hk'⟩ := succ_of hk
  simp only [block_Level.l0]
  rw [if_pos (by omega), if_pos (by omega), shl_one (by omega), wrap_nat (by omega), ih k (i + 1) (by omega) (by omega)]
  simp only [levGo]
  by_cases hc : (2 : Int) ^ i < n
  · rw [if_pos hc, if_pos hc]
  · rw [if_neg hc, if_neg hc]
theorem level_told (k : Nat) (n : Int) (hk : 62 < k) : block_Level.f k n = some ((lev n : Nat) : Int) := level_loop n 62 k 0 (by omega) hk
theorem lev_le : ∀ (d i : Nat) (n : Int), levGo d i n ≤ i + d := by
 intro d
 induction d with
 | zero => intro i n; exact Nat.le_refl _
 | succ d ih =>
  intro i n
  simp only [levGo]
  split
  · exact Nat.le_trans (ih (i + 1) n) (by omega)
  · omega
def LevOk (n : Int) (L : Nat) : Prop := n ≤ 2 ^ L ∧ (0 < L → (2 : Int) ^ (L - 1) < n)
theorem levgo_ok : ∀ (d i : Nat) (n : Int), i + d = 62 → n ≤ 4611686018427387904 → (0 < i → (2 : Int) ^ (i - 1) < n) → LevOk n (levGo d i n) := by
 intro d
 induction d with
 | zero =>
  intro i n hd hn hi
  obtain rfl : i = 62 := by omega
  exact ⟨by simpa [levGo] using hn, by simpa [levGo] using hi⟩
 | succ d ih =>
  intro i n hd hn hi
  simp only [levGo]
  by_cases hc : (2 : Int) ^ i < n
  · rw [if_pos hc]
    exact ih (i + 1) n (by omega) hn (fun _ => by simpa using hc)
  · rw [if_neg hc]
    exact ⟨by omega, hi⟩
theorem lev_ok {n : Int} (hn : n ≤ 4611686018427387904) : LevOk n (lev n) := levgo_ok 62 0 n (by omega) hn (by omega)
theorem pow_mono {a b : Nat} (h : a ≤ b) : (2 : Int) ^ a ≤ 2 ^ b := by
 have : (2 : Nat) ^ a ≤ 2 ^ b := Nat.pow_le_pow_right (by decide) h
 exact_mod_cast this
theorem lev_unique {n : Int} {L M : Nat} (h : LevOk n L) (k : LevOk n M) : L = M := by
 rcases Nat.lt_trichotomy L M with h1 | h1 | h1
 · have := k.2 (by omega)
   have := pow_mono (a := L) (b := M - 1) (by omega)
   have := h.1
   omega
 · exact h1
 · have := h.2 (by omega)
   have := pow_mono (a := M) (b := L - 1) (by omega)
   have := k.1
   omega
theorem lev_62 (n : Int) : lev n ≤ 62 := by have := lev_le 62 0 n; unfold lev; omega
theorem sort6_some {l : List E} (h : l.length < 1000000000) : entry_Sort.f l = some (sortE l) := if_pos h
theorem of_told (k : Nat) (l : List E) (hl : l.length < 1000000000) (hk : 62 < k) : block_Of.f k l = some (((lev (l.length : Int) : Nat) : Int), sortE l) := by
 unfold block_Of.f
 rw [level_told k _ hk]
 simp only [Option.bind_some]
 rw [sort6_some hl]
 rfl
theorem blockok_told (k : Nat) (L : Int) (l : List E) (hl : l.length < 1000000000) (hk : l.length + 64 ≤ k) : block_Block_Ok.f k L l = some (decide (L = ((lev (l.length : Int) : Nat) : Int)) && okTo l (l.length - 1)) := by
 have h62 := lev_62 (l.length : Int)
 unfold block_Block_Ok.f
 rw [level_told k _ (by omega)]
 simp only [Option.bind_some]
 rw [issorted_told k l hl (by omega)]
 simp only [Option.bind_some]
 by_cases h0 : L ≥ 0
 · rw [if_pos h0]
   by_cases h1 : L ≤ 62
   · rw [if_pos h1]
     by_cases h2 : L = ((lev (l.length : Int) : Nat) : Int)
     · rw [if_pos h2, decide_eq_true h2, Bool.true_and]
     · rw [if_neg h2, decide_eq_false h2, Bool.false_and]
   · rw [if_neg h1, decide_eq_false (by omega), Bool.false_and]
 · rw [if_neg h0, decide_eq_false (by omega), Bool.false_and]
theorem blockok_of (k : Nat) (l : List E) (hl : l.length < 1000000000) (hk : l.length + 64 ≤ k) : block_Block_Ok.f k ((lev (l.length : Int) : Nat) : Int) (sortE l) = some true := by
 have hs := sortE_length l
 rw [blockok_told k _ _ (by omega) (by omega), hs, okTo_sorted' (sortE_sorted l) hs]
 simp
theorem blockmerge_told (k : Nat) (L M : Int) (x y : List E) (hl : x.length + y.length < 1000000000) (hk : 62 < k) : block_Merge.f k L x M y = some (((lev ((x.length + y.length : Nat) : Int) : Nat) : Int), sortE (x ++ y)) := by
 unfold block_Merge.f
 rw [concat_told k (by omega) x y hl]
 simp only [Option.bind_some]
 rw [of_told k _ (by simpa using hl) hk, List.length_append]
 rfl
theorem clamp_told (n : Int) (m : Nat) : 0 ≤ mn (mx n 0) (m : Int) ∧ mn (mx n 0) (m : Int) ≤ (m : Int) := by
 unfold mn mx
 omega
def clampN (n : Int) (m : Nat) : Nat := (mn (mx n 0) (m : Int)).toNat
theorem clampN_le (n : Int) (m : Nat) : clampN n m ≤ m := by have := clamp_told n m; unfold clampN; omega
def allB (bs : List S26) : List E := bs.flatMap fun b => b.f1
end Go.Proofs.Ytccppdmangbdoaa.V
end
section
set_option linter.unusedVariables false
set_option linter.unusedSimpArgs false
namespace Go.Proofs.Ytccppdmangbdoaa.V
open Go.RowKit Go.Proofs.YtccppdmangbdoaaW.PrintWords Go.Proofs.YtccppdmangbdoaaW.PrintLast Go.Proofs.YtccppdmangbdoaaW.PrintMore
abbrev Bk := S26
theorem Bk.ext' {a b : Bk} (h0 : a.f0 = b.f0) (h1 : a.f1 = b.f1) : a = b := by cases a; cases b; simp_all
def mkB (l : List E) : Bk := ⟨((lev (l.length : Int) : Nat) : Int), sortE l⟩
def joinB (a b : Bk) : Bk := mkB (a.f1 ++ b.f1)
theorem mkB_perm {l m : List E} (h : l.Perm m) : mkB l = mkB m := by
 unfold mkB; rw [h.length_eq, sortE_of_perm h]
theorem joinB_comm (a b : Bk) : joinB a b = joinB b a := mkB_perm List.perm_append_comm
structure Sound (b : Bk) : Prop where
  lv : b.f0 = ((lev (b.f1.length : Int) : Nat) : Int)
  up : SortedE b.f1
  ne : b.f1 ≠ []
theorem mkB_sound {l : List E} (h : l ≠ []) : Sound (mkB l) :=
 ⟨by show _ = ((lev ((sortE l).length : Int) : Nat) : Int); rw [sortE_length]; rfl, sortE_sorted l, by
  intro e
  have := sortE_length l
  rw [show sortE l = [] from e] at this
  exact h (List.length_eq_zero_iff.1 this.symm)⟩
theorem joinB_sound {a b : Bk} (ha : Sound a) : Sound (joinB a b) := mkB_sound (by simp [ha.ne])
theorem Sound.pos {b : Bk} (h : Sound b) : 1 ≤ b.f1.length := by
 have := h.ne
 cases hb : b.f1 with
 | nil => exact absurd hb this
 | cons _ _ => simp
theorem joinB_level {a b : Bk} (ha : Sound a) (hb : Sound b) (he : a.f0 = b.f0) (hl : a.f1.length + b.f1.length < 1000000000) : (joinB a b).f0 = a.f0 + 1 := by
 have oa := lev_ok (n := (a.f1.length : Int)) (by omega)
 have ob := lev_ok (n := (b.f1.length : Int)) (by omega)
 have e1 := ha.lv
 have e2 := hb.lv
 obtain ⟨L, hL⟩ : ∃ L : Nat, lev (a.f1.length : Int) = L := ⟨_, rfl⟩
 have hL2 : lev (b.f1.length : Int) = L := by omega
 rw [hL] at oa e1
 rw [hL2] at ob
 have pa := ha.pos
 have pb := hb.pos
 have key : LevOk (((a.f1 ++ b.f1).length : Nat) : Int) (L + 1) := by
  rw [List.length_append]
  obtain ⟨u1, l1⟩ := oa
  obtain ⟨u2, l2⟩ := ob
  have h2 : (2 : Int) ^ (L + 1) = 2 ^ L * 2 := Int.pow_succ 2 L
  refine ⟨by omega, fun _ => ?_⟩
  rw [Nat.add_sub_cancel]
  by_cases h0 : L = 0
  · subst h0; simp; omega
  · have h3 : (2 : Int) ^ L = 2 ^ (L - 1) * 2 := by rw [← Int.pow_succ]; congr 1; omega
    have := l1 (by omega)
    have := l2 (by omega)
    omega
 have h4 := lev_unique (lev_ok (n := (((a.f1 ++ b.f1).length : Nat) : Int)) (by rw [List.length_append]; omega)) key
 show ((lev (((a.f1 ++ b.f1).length : Nat) : Int) : Nat) : Int) = a.f0 + 1
 rw [h4, e1]
 rfl
def Desc (bs : List Bk) : Prop := bs.Pairwise fun a b => b.f0 < a.f0
structure Good (bs : List Bk) : Prop where
  snd : ∀ b ∈ bs, Sound b
  desc : Desc bs
theorem Good.sub {bs cs : List Bk} (h : Good bs) (hs : cs.Sublist bs) : Good cs := ⟨fun b hb => h.snd b (hs.subset hb), h.desc.sublist hs⟩
def insR (x : Bk) : List Bk → List Bk
  | [] => [x]
  | b :: r => if b.f0 < x.f0 then b :: insR x r else if b.f0 = x.f0 then insR (joinB b x) r else x :: b :: r
def ins (x : Bk) (bs : List Bk) : List Bk := (insR x bs.reverse).reverse
theorem insR_skip (x : Bk) : ∀ (c r : List Bk), (∀ b ∈ c, b.f0 < x.f0) → insR x (c ++ r) = c ++ insR x r := by
 intro c
 induction c with
 | nil => intro r _; rfl
 | cons b c ih =>
  intro r h
  show (if b.f0 < x.f0 then b :: insR x (c ++ r) else _) = _
  rw [if_pos (h b (by simp)), ih r (fun q hq => h q (by simp [hq]))]
  rfl
theorem ins_split {x : Bk} {A C : List Bk} (hc : ∀ b ∈ C, b.f0 < x.f0) : ins x (A ++ C) = ins x A ++ C := by
 unfold ins
 rw [List.reverse_append, insR_skip x _ _ (by intro b hb; exact hc b (List.mem_reverse.1 hb)), List.reverse_append, List.reverse_reverse]
theorem ins_eq {x a : Bk} {A : List Bk} (h : a.f0 = x.f0) : ins x (A ++ [a]) = ins (joinB a x) A := by
 unfold ins
 rw [List.reverse_append]
 show (insR x (a :: A.reverse)).reverse = _
 rw [insR, if_neg (by omega), if_pos h]
theorem ins_gt {x a : Bk} {A : List Bk} (h : x.f0 < a.f0) : ins x (A ++ [a]) = A ++ [a] ++ [x] := by
 unfold ins
 rw [List.reverse_append]
 show (insR x (a :: A.reverse)).reverse = _
 rw [insR, if_neg (by omega), if_neg (by omega)]
 simp
structure Cur (x : Bk) (A C : List Bk) : Prop where
  snd : Sound x
  good : Good (A ++ C)
  up : ∀ a ∈ A, x.f0 ≤ a.f0
  dn : ∀ c ∈ C, c.f0 ≤ x.f0
def Mrg (cur fin : List Bk) : Prop := (Good cur ∧ fin = cur) ∨ ∃ x A C, cur = A ++ x :: C ∧ Cur x A C ∧ fin = ins x (A ++ C)
theorem desc_app {A C : List Bk} : Desc (A ++ C) ↔ Desc A ∧ Desc C ∧ ∀ a ∈ A, ∀ c ∈ C, c.f0 < a.f0 := List.pairwise_append
theorem Mrg.snd {cur fin : List Bk} (h : Mrg cur fin) : ∀ b ∈ cur, Sound b := by
 rcases h with ⟨h, _⟩ | ⟨x, A, C, rfl, h, _⟩
 · exact h.snd
 · intro b hb
   rcases List.mem_append.1 hb with hb | hb
   · exact h.good.snd b (by simp [hb])
   · rcases List.mem_cons.1 hb with rfl | hb
     · exact h.snd
     · exact h.good.snd b (by simp [hb])
theorem Mrg.done {cur fin : List Bk} (h : Mrg cur fin) (hn : ∀ i a b, cur[i]? = some a → cur[i + 1]? = some b → a.f0 ≠ b.f0) : fin = cur ∧ Good cur := by
 rcases h with ⟨h, rfl⟩ | ⟨x, A, C, rfl, h, rfl⟩
 · exact ⟨rfl, h⟩
 · have hC : ∀ c ∈ C, c.f0 < x.f0 := by
    intro c hc
    cases C with
    | nil => simp at hc
    | cons c0 C =>
     have h0 := hn A.length x c0 (by simp) (by simp)
     have h1 := h.dn c0 (by simp)
     rcases List.mem_cons.1 hc with rfl | hc
     · omega
     · obtain ⟨_, d2, _⟩ := desc_app.1 h.good.desc
       have := (List.pairwise_cons.1 d2).1 c hc
       omega
   have hA : ∀ a ∈ A, x.f0 < a.f0 := by
    intro a ha
    rcases List.eq_nil_or_concat A with rfl | ⟨A', a', rfl⟩
    · simp at ha
    · rw [List.concat_eq_append] at *
      have h0 := hn A'.length a' x (by simp) (by simp)
      have h1 := h.up a' (by simp)
      rcases List.mem_append.1 ha with ha | ha
      · obtain ⟨d1, _, _⟩ := desc_app.1 h.good.desc
        obtain ⟨_, _, d3⟩ := desc_app.1 d1
        have := d3 a ha a' (by simp)
        omega
      · obtain rfl : a = a' := by simpa using ha
        omega
   refine ⟨?_, Mrg.snd (fin := ins x (A ++ C)) (.inr ⟨x, A, C, rfl, h, rfl⟩), ?_⟩
   · rw [ins_split hC]
     rcases List.eq_nil_or_concat A with rfl | ⟨A', a', rfl⟩
     · rfl
     · rw [List.concat_eq_append] at *
       rw [ins_gt (hA a' (by simp))]
       simp
   · obtain ⟨d1, d2, d3⟩ := desc_app.1 h.good.desc
     refine desc_app.2 ⟨d1, List.pairwise_cons.2 ⟨hC, d2⟩, ?_⟩
     intro a ha c hc
     rcases List.mem_cons.1 hc with rfl | hc
     · exact hA a ha
     · exact d3 a ha c hc
theorem cur_joined {x a : Bk} {A C : List Bk} (hx : Sound x) (ha : Sound a) (he : a.f0 = x.f0) (hg : Good (A ++ C)) (hA : ∀ q ∈ A, x.f0 < q.f0) (hC : ∀ q ∈ C, q.f0 < x.f0) (hl : a.f1.length + x.f1.length < 1000000000) :
 Cur (joinB a x) A C ∧ ins (joinB a x) (A ++ C) = ins (joinB a x) A ++ C := by
 have hj := joinB_level ha hx he hl
 exact ⟨⟨joinB_sound ha, hg, fun q hq => by have := hA q hq; omega, fun q hq => by have := hC q hq; omega⟩, ins_split (fun q hq => by have := hC q hq; omega)⟩
theorem good_out {A C : List Bk} {a : Bk} (h : Good (A ++ a :: C)) : Good (A ++ C) := h.sub (List.Sublist.append (List.Sublist.refl _) (List.sublist_cons_self _ _))
theorem Mrg.step {cur fin : List Bk} (h : Mrg cur fin) {i : Nat} {a b : Bk} (ha : cur[i]? = some a) (hb : cur[i + 1]? = some b) (he : a.f0 = b.f0) (hl : a.f1.length + b.f1.length < 1000000000) :
 Mrg (cur.take i ++ joinB a b :: cur.drop (i + 2)) fin := by
 rcases h with ⟨h, rfl⟩ | ⟨x, A, C, rfl, h, rfl⟩
 · obtain ⟨hi, rfl⟩ := List.getElem?_eq_some_iff.1 ha
   obtain ⟨hi', rfl⟩ := List.getElem?_eq_some_iff.1 hb
   have := List.pairwise_iff_getElem.1 h.desc i (i + 1) hi hi' (by omega)
   omega
 · obtain ⟨d1, d2, d3⟩ := desc_app.1 h.good.desc
   by_cases h1 : i + 1 < A.length
   · rw [List.getElem?_append_left (by omega)] at ha hb
     obtain ⟨hi, rfl⟩ := List.getElem?_eq_some_iff.1 ha
     obtain ⟨hi', rfl⟩ := List.getElem?_eq_some_iff.1 hb
     have := List.pairwise_iff_getElem.1 d1 i (i + 1) hi hi' (by omega)
     omega
   · by_cases h2 : i + 1 = A.length
     · 
       rcases List.eq_nil_or_concat A with rfl | ⟨A', a', rfl⟩
       · simp at h2
       · rw [List.concat_eq_append] at *
         have hi : i = A'.length := by simpa using h2
         subst hi
         obtain rfl : a' = a := by simpa using ha
         obtain rfl : x = b := by simpa using hb
         obtain ⟨e1, _, e3⟩ := desc_app.1 d1
         obtain ⟨k1, k2⟩ := cur_joined (x := x) (a := a') (A := A') (C := C) h.snd (h.good.snd a' (by simp)) he (by
          have := h.good
          rw [List.append_assoc] at this
          exact good_out this) (fun q hq => by have := e3 q hq a' (by simp); omega) (fun q hq => by have := d3 a' (by simp) q hq; omega) hl
         refine .inr ⟨joinB a' x, A', C, by simp, k1, ?_⟩
         rw [k2, ins_split (fun q hq => by have := d3 a' (by simp) q hq; omega), ins_eq he]
     · 
       obtain ⟨j, rfl⟩ : ∃ j, i = A.length + j := ⟨i - A.length, by omega⟩
       rw [List.getElem?_append_right (by omega), show A.length + j - A.length = j by omega] at ha
       rw [List.getElem?_append_right (by omega), show A.length + j + 1 - A.length = j + 1 by omega] at hb
       cases j with
       | zero =>
        obtain rfl : x = a := by simpa using ha
        cases C with
        | nil => simp at hb
        | cons c C =>
         obtain rfl : c = b := by simpa using hb
         obtain ⟨e1, e2⟩ := List.pairwise_cons.1 d2
         have hA : ∀ q ∈ A, x.f0 < q.f0 := fun q hq => by have := d3 q hq c (by simp); omega
         have hC : ∀ q ∈ C, q.f0 < x.f0 := fun q hq => by have := e1 q hq; omega
         obtain ⟨k1, k2⟩ := cur_joined (x := x) (a := c) (A := A) (C := C) h.snd (h.good.snd c (by simp)) he.symm (good_out h.good) hA hC (by omega)
         refine .inr ⟨joinB c x, A, C, by rw [joinB_comm x c]; simp, k1, ?_⟩
         rw [k2, show A ++ c :: C = (A ++ [c]) ++ C by simp, ins_split hC, ins_eq he.symm]
       | succ j =>
        rw [List.getElem?_cons_succ] at ha hb
        obtain ⟨hi, rfl⟩ := List.getElem?_eq_some_iff.1 ha
        obtain ⟨hi', rfl⟩ := List.getElem?_eq_some_iff.1 hb
        have := List.pairwise_iff_getElem.1 d2 j (j + 1) hi hi' (by omega)
        omega
theorem allB_append (a b : List Bk) : allB (a ++ b) = allB a ++ allB b := by simp [allB]
theorem allB_cons (a : Bk) (b : List Bk) : allB (a :: b) = a.f1 ++ allB b := by simp [allB]
theorem joinB_all (a b : Bk) : (joinB a b).f1.Perm (a.f1 ++ b.f1) := sortE_perm _
theorem insR_all : ∀ (r : List Bk) (x : Bk), (allB (insR x r)).Perm (x.f1 ++ allB r) := by
 intro r
 induction r with
 | nil => intro x; simp [insR, allB]
 | cons b r ih =>
  intro x
  rw [insR]
  split
  · rw [allB_cons, allB_cons]
    refine ((ih x).append_left _).trans ?_
    rw [← List.append_assoc, ← List.append_assoc]
    exact List.perm_append_comm.append_right _
  · split
    · refine (ih _).trans ?_
      rw [allB_cons, ← List.append_assoc]
      exact ((joinB_all b x).trans List.perm_append_comm).append_right _
    · rw [allB_cons]
theorem allB_reverse (r : List Bk) : (allB r.reverse).Perm (allB r) := (List.reverse_perm r).flatMap_right _
theorem ins_all (x : Bk) (bs : List Bk) : (allB (ins x bs)).Perm (x.f1 ++ allB bs) :=
 (allB_reverse _).trans ((insR_all _ _).trans ((allB_reverse bs).append_left _))
theorem Mrg.all {cur fin : List Bk} (h : Mrg cur fin) : (allB fin).Perm (allB cur) := by
 rcases h with ⟨h, rfl⟩ | ⟨x, A, C, rfl, h, rfl⟩
 · exact List.Perm.refl _
 · refine (ins_all _ _).trans ?_
   rw [allB_append, allB_append, allB_cons, ← List.append_assoc, ← List.append_assoc]
   exact List.perm_append_comm.append_right _
end Go.Proofs.Ytccppdmangbdoaa.V
end
section
set_option linter.unusedVariables false
set_option linter.unusedSimpArgs false
namespace Go.Proofs.Ytccppdmangbdoaa.V
open Go.RowKit Go.Proofs.YtccppdmangbdoaaW.PrintWords Go.Proofs.YtccppdmangbdoaaW.PrintLast Go.Proofs.YtccppdmangbdoaaW.PrintMore
section
variable {P : Program} {ops : Array Oper} {Q : Exit → Act → World → Prop}
theorem goesLCg_ {rest : List Oper} {oi : Oper} {a : Act} {w : World} (N : Option Tmp) (hd : oi.dst = N) (hw : Region.wanted oi (yielded ops a.tmps) = true) {f : FuncId} {fn : Func} {xs : Array Operand} {ts : Array TypeId} {x : Operand} {cb : Array Value} (hf : P.funcs[f]? = some fn) (hname : (fn.name == "runtime.NumGoroutine") = false) (hb : fn.body.isSome = true) (args : Array Value)
 (hop : oi.op = .call { callee := .value x, args := xs, argTypes := ts }) (hx : a.eval x = .func (.func f) #[] cb) (hargs : xs.map a.eval ++ cb = args)
 (h : Calls P f args w fun e w' => ∃ v, e = .returned v ∧ wpList P ops Q rest (a.put N v) w') : wpList P ops Q (oi :: rest) a w := by
 refine wpList_step fun K hK => ?_
 rw [hw, if_pos rfl]
 have he := enters_ hf hname hb args w
 have hrun : (execOp a.eval oi).run P w = .ok (.enter f args) w := by
  unfold execOp
  simp [hop, resolve, Deferred.ofValue, invoke, hx, hargs, he]
 unfold Oper.wp
 rw [hrun, Oper.upon_enter]
 refine h.mono fun e w'' hh => ?_
 obtain ⟨v, rfl, hk⟩ := hh
 subst hd
 exact hK _ _ hk
end
theorem rd_someG {l : List E} {m : Nat} {e : E} (h : l[m]? = some e) : rd_T31 l (m : Int) = e := by unfold rd_T31; rw [Int.toNat_natCast, List.getD_eq_getElem?_getD, h]; rfl
structure AskI (fid : FuncId) (cb : Array Value) (p : Int → Bool) (Inv : World → Prop) : Prop where
  known : ∃ fn, Try.prog.funcs[fid]? = some fn ∧ (fn.name == "runtime.NumGoroutine") = false ∧ fn.body.isSome = true
  stay : ∀ W W', Inv W → Below W.heap.size W W' → Inv W'
  call : ∀ (x : Int) (W : World), Inv W → Calls Try.prog fid (#[.int .i64 x] ++ cb) W fun y W' => y = .returned (.bool (p x)) ∧ Below W.heap.size W W'
theorem filt_take {p : E → Bool} {l : List E} {m : Nat} {e : E} (h : l[m]? = some e) : (l.take (m + 1)).filter p = (l.take m).filter p ++ (if p e = true then [e] else []) := by
 obtain ⟨h1, rfl⟩ := List.getElem?_eq_some_iff.1 h
 rw [List.take_succ_eq_append_getElem h1, List.filter_append]
 by_cases hi : p l[m] = true <;> simp [hi]
end Go.Proofs.Ytccppdmangbdoaa.V
end
section
set_option linter.unusedVariables false
set_option linter.unusedSimpArgs false
namespace Go.Proofs.Ytccppdmangbdoaa.V
open Go.RowKit Go.Proofs.YtccppdmangbdoaaW.PrintWords Go.Proofs.YtccppdmangbdoaaW.PrintLast Go.Proofs.YtccppdmangbdoaaW.PrintMore
theorem func_nilG (f : Fn) (x y : Array Value) (W : World) : (binOp .eql 46 (.func f x y) .nilFunc).run Try.prog W = .ok (.bool false) W := by
 have h : ∀ d, (Op.equalIn (d + 1) 46 (.func f x y) .nilFunc).run Try.prog W = .ok false W := fun d => by simp [Op.equalIn, run_underlying Try.underlying46]
 simp only [binOp]
 simp [Op.equal, Op.maxDepth, h 9999]
set_option maxRecDepth 100000 in
set_option maxHeartbeats 4000000 in
theorem shrink_gen {fid : FuncId} {cb : Array Value} {gone : Int → Bool} {Inv : World → Prop} (b : Bk) (A : Option Addr) (c : Nat) (w : World) (hf : AskI fid cb gone Inv) (hr : k31.C w A b.f1.length b.f1) (hc : b.f1.length ≤ c) (hl : b.f1.length ≤ 1000000) (h : Inv w) :
 Calls Try.prog 25 #[.agg #[.int .i64 b.f0, .slice A b.f1.length c], .func (.func fid) #[] cb] w fun x w' => ∃ A1 c1, x = .returned (.agg #[.int .i64 (mkB (b.f1.filter fun e => !gone e.f1)).f0, .slice A1 (mkB (b.f1.filter fun e => !gone e.f1)).f1.length c1]) ∧ Kd.V k31 31 w' w.heap.size (fun k => w.heap.size ≤ k) (.slice A1 (mkB (b.f1.filter fun e => !gone e.f1)).f1.length c1) (mkB (b.f1.filter fun e => !gone e.f1)).f1 ∧ Below w.heap.size w w' := by
 have hz := below_alloc (below_alloc (Below.refl w.heap.size w) (.cells #[.int .i64 b.f0, .slice A b.f1.length c] 26)) (.cells #[.int .i64 0, .slice none 0 0] 26)
 have HZ := Aside0.mk hz
 have HR := Aside0.mk (Kd.C_below hr hz)
 have HC := Aside0.mk (hf.stay _ _ h hz)
 have HF := Aside0.mk hf
 obtain ⟨fn, hk1, hk2, hk3⟩ := hf.known
 have HK := Aside0.mk hk1
 have HK2 := Aside0.mk hk2
 have HK3 := Aside0.mk hk3
 have HX := Aside0.mk (heap_alloc_new (w.alloc (.cells #[.int .i64 b.f0, .slice A b.f1.length c] 26)) (.cells #[.int .i64 0, .slice none 0 0] 26))
 have hnil := fun W => func_nilG (.func fid) #[] cb W
 obtain ⟨keep, hkeep⟩ : ∃ keep : E → Bool, keep = fun e => !gone e.f1 := ⟨_, rfl⟩
 have HKE := Aside0.mk hkeep
 rw [← hkeep]
 obtain ⟨L, hL⟩ : ∃ L, L = b.f1.filter keep := ⟨_, rfl⟩
 have HLE := Aside0.mk hL
 rw [← hL]
 clear hz hr h hf hk1 hk2 hk3 hkeep hL
 go_enter Try.func25, Try.ntmps25
 go_wp2
 obtain ⟨wz, hwz⟩ : ∃ wz : World, wz = (w.alloc (.cells #[.int .i64 b.f0, .slice A b.f1.length c] 26)).alloc (.cells #[.int .i64 0, .slice none 0 0] 26) := ⟨_, rfl⟩
 rw [← hwz] at HZ HR HC HX ⊢
 rw [World.size_alloc] at HX
 clear hwz
 go_loopw [5, 11] (fun q i wr => ∃ m : Nat, m ≤ b.f1.length ∧ i = .int .i64 m ∧ Aside0 (Kd.R k31 31 wr wz.heap.size (fun _ => True) q ((b.f1.take m).filter keep)) ∧ Aside0 (Below wz.heap.size wz wr)) (fun _ i _ => b.f1.length - (intOf i).toNat)
 case atStart => exact ⟨0, Nat.zero_le _, rfl, ⟨Kd.R_nil _ _ _ _ _⟩, ⟨Below.refl _ _⟩⟩
 case round =>
  obtain ⟨m, hm, rfl, HQ, HB⟩ := hrel
  by_cases hlt : m < b.f1.length
  · obtain ⟨e, he⟩ : ∃ e, b.f1[m]? = some e := ⟨_, List.getElem?_eq_getElem hlt⟩
    obtain ⟨ad, e1, y0, y1⟩ := at_T31 (Kd.C_below HR.out HB.out) (m : Int) (by omega) (by omega)
    subst e1
    rw [Int.toNat_natCast, rd_someG he] at y0 y1
    have HT := Aside0.mk (filt_take (p := keep) he)
    have hql : ((b.f1.take m).filter keep).length ≤ 1000000 := Nat.le_trans (List.length_filter_le _ _) (by rw [List.length_take]; omega)
    have HQL := Aside0.mk hql
    have HI := Aside0.mk (HF.out.stay _ _ (HF.out.stay _ _ HC.out HB.out) (below_alloc (Below.refl wr.heap.size wr) (.cells #[.int .u64 e.f0, .int .i64 e.f1] 31)))
    have hkk : keep e = !gone e.f1 := by rw [HKE.out]
    clear he hql
    cases hi : gone e.f1 with
    | true =>
     have HT2 := HT.out
     rw [hkk, hi, if_neg (by simp), List.append_nil] at HT2
     have HT3 := Aside0.mk HT2
     have HP := Aside0.mk hi
     clear HT2 hi hkk
     go_wp2_with ((with_reducible refine gate_dst (N := 21) rfl ?_); go_loud (refine goesLCg_ (some 21) rfl (by rfl) HK.out HK2.out HK3.out (#[.int .i64 e.f1] ++ cb) rfl rfl (by (try simp only [List.map_toArray, List.map_cons, List.map_nil]); first | done | rfl) ?_; refine (HF.out.call e.f1 _ HI.out).mono ?_; rintro x w2 ⟨rfl, hb2⟩; rw [HP.out]; have HB2 := Aside0.mk (below_step (below_alloc (Below.refl wr.heap.size wr) (.cells #[.int .u64 e.f0, .int .i64 e.f1] 31)) hb2); clear hb2; refine ⟨_, rfl, ?_⟩))
     go_roundw
     case rel => exact ⟨m + 1, by omega, by go_num, ⟨by rw [HT3.out]; exact Kd.R_below HQ.out HB2.out⟩, ⟨below_step HB.out HB2.out⟩⟩
     case measure => simp [intOf]; omega
    | false =>
     have HT2 := HT.out
     rw [hkk, hi, if_pos (by simp)] at HT2
     have HT3 := Aside0.mk HT2
     have HP := Aside0.mk hi
     clear HT2 hi hkk
     have HX1 := Aside0.mk (heap_alloc_new wr (.cells #[.int .u64 e.f0, .int .i64 e.f1] 31))
     go_wp2_with (first
      | ((with_reducible refine gate_dst (N := 21) rfl ?_); go_loud (refine goesLCg_ (some 21) rfl (by rfl) HK.out HK2.out HK3.out (#[.int .i64 e.f1] ++ cb) rfl rfl (by (try simp only [List.map_toArray, List.map_cons, List.map_nil]); first | done | rfl) ?_; refine (HF.out.call e.f1 _ HI.out).mono ?_; rintro x w2 ⟨rfl, hb2⟩; rw [HP.out]; have hx1 := blk_below HX1.out hb2; have k0 : w2.cell? ⟨wr.heap.size, 0, none⟩ = some (.int .u64 e.f0) := (blk_cell hx1 0).trans rfl; have k1 : w2.cell? ⟨wr.heap.size, 1, none⟩ = some (.int .i64 e.f1) := (blk_cell hx1 1).trans rfl; have HB2 := Aside0.mk (below_step (below_alloc (Below.refl wr.heap.size wr) (.cells #[.int .u64 e.f0, .int .i64 e.f1] 31)) hb2); have HQ2 := Aside0.mk (Kd.R_below HQ.out HB2.out); have HBB := Aside0.mk (below_step HB.out HB2.out); clear hb2 hx1; refine ⟨_, rfl, ?_⟩))
      | ((with_reducible refine gate_builtin (b := .append) (xs := #[.tmp 24, .tmp 26]) rfl ?_); at_builtin; go_loud (refine Kd.R_append k31 (w0 := wz) wz.heap.size rfl (.tmp 24) (.tmp 26) 22 31 (.agg #[(.int .u64 0), (.int .i64 0)]) 16 rfl Try.underlying22 info31 rfl (by decide) (by decide) u5 ((b.f1.take m).filter keep) e [.int .u64 e.f0, .int .i64 e.f1] (fun _ => True) (fun _ => False) rfl (by simp [Act.eval]) (k31_mkM _ _ _ e) (fun _ hk => hk.elim) (fun _ _ => trivial) HQ2.out HBB.out HBB.out.size (by have := HQL.out; omega) ?_; intro v1 w3 ho1 hb1 hg1 hat1; have HQ1 := Aside0.mk ho1; have HB1 := Aside0.mk hb1; clear ho1 hb1 hg1 hat1)))
     go_roundw
     case rel => exact ⟨m + 1, by omega, by go_num, ⟨by rw [HT3.out]; exact HQ1.out⟩, HB1⟩
     case measure => simp [intOf]; omega
  · obtain rfl : m = b.f1.length := by omega
    rw [List.take_length] at HQ
    have HOB : Aside0 (Kd.R k31 31 wr wz.heap.size (fun _ => True) u5 L) := by rw [HLE.out]; exact HQ
    have HOL := Aside0.mk (show L.length ≤ 1000000 by rw [HLE.out]; exact Nat.le_trans (List.length_filter_le _ _) hl)
    obtain ⟨A1, c1, e1⟩ := Kd.R_slice HOB.out
    subst e1
    have HRD := Aside0.mk (Kd.R_reads' HOB.out)
    have HOF := Aside0.mk (show block_Of.f 100 L = some ((mkB L).f0, (mkB L).f1) from of_told 100 _ (by have := HOL.out; omega) (by omega))
    clear HQ
    go_wp2_with fail
    refine (block_Of.calls 100 A1 c1 L _ _ wr HRD.out.2.2 HRD.out.2.1 HOF.out).mono ?_
    rintro y w4 ⟨v4, rfl, hv4, hb4⟩
    obtain ⟨A4, c4, rfl⟩ := Kd.V_slice hv4
    have HV4 := Aside0.mk hv4
    have HB4 := Aside0.mk (below_then HB.out HB.out.size hb4)
    have hx := (HB4.out.block _ (Array.getElem?_eq_some_iff.1 HX.out).1).trans HX.out
    have x0 : w4.cell? ⟨w.heap.size + 1, 0, none⟩ = some (.int .i64 0) := by simp [World.cell?, hx]
    have x1 : w4.cell? ⟨w.heap.size + 1, 1, none⟩ = some (.slice none 0 0) := by simp [World.cell?, hx]
    have f0 : w4.frozen? ⟨w.heap.size + 1, 0, none⟩ = false := by simp [World.frozen?, hx]
    have f1 : w4.frozen? ⟨w.heap.size + 1, 1, none⟩ = false := by simp [World.frozen?, hx]
    clear hv4 hb4 hx
    have HWZ : Aside0 (w.heap.size + 1 < wr.heap.size) := ⟨Nat.lt_of_lt_of_le (Array.getElem?_eq_some_iff.1 HX.out).1 HB.out.size⟩
    have HV5 := Aside0.mk (Kd.V_mono (Kd.V_far (Kd.V_far HV4.out (p := ⟨w.heap.size + 1, 0, none⟩) (fun k hk => by have := HWZ.out; show k ≠ w.heap.size + 1; omega) (.int .i64 (mkB L).f0)) (p := ⟨w.heap.size + 1, 1, none⟩) (fun k hk => by have := HWZ.out; show k ≠ w.heap.size + 1; omega) (.slice A4 (mkB L).f1.length c4)) (ok' := fun k => w.heap.size ≤ k) (fun k hk => by have := HWZ.out; omega))
    go_wp2
    exact bodyPost_ret (v := .agg #[.int .i64 (mkB L).f0, .slice A4 (mkB L).f1.length c4]) (by simp [results, Try.results25, go_sem, x0, x1]) rfl ⟨_, _, rfl, HV5.out, ((below_step HZ.out HB4.out).setCell (Nat.le_succ _) _).setCell (Nat.le_succ _) _⟩
end Go.Proofs.Ytccppdmangbdoaa.V
end
section
set_option linter.unusedVariables false
set_option linter.unusedSimpArgs false
namespace Go.Proofs.Ytccppdmangbdoaa.V
open Go.RowKit Go.Proofs.YtccppdmangbdoaaW.PrintWords Go.Proofs.YtccppdmangbdoaaW.PrintLast Go.Proofs.YtccppdmangbdoaaW.PrintMore
def BxI (W : World) (g : Nat) (id : Int) : Prop := W.heap[g]? = some (.cells #[.int .i64 id] 3 (0, 0))
theorem BxI.below {W W1 : World} {g : Nat} {id : Int} (h : BxI W g id) (hb : Below W.heap.size W W1) : BxI W1 g id := blk_below h hb
theorem BxI.c0 {W : World} {g : Nat} {id : Int} (h : BxI W g id) : W.cell? ⟨g, 0, none⟩ = some (.int .i64 id) := (blk_cell h 0).trans rfl
def BxF (W : World) (f : Nat) (fid : FuncId) (g : Nat) : Prop := W.heap[f]? = some (.cells #[.func (.func fid) #[] #[.pointer (some ⟨g, 0, none⟩)]] 46 (0, 0))
theorem BxF.below {W W1 : World} {f g : Nat} {fid : FuncId} (h : BxF W f fid g) (hb : Below W.heap.size W W1) : BxF W1 f fid g := blk_below h hb
theorem BxF.c0 {W : World} {f g : Nat} {fid : FuncId} (h : BxF W f fid g) : W.cell? ⟨f, 0, none⟩ = some (.func (.func fid) #[] #[.pointer (some ⟨g, 0, none⟩)]) := (blk_cell h 0).trans rfl
structure Cap (W : World) (f8 f9 g4 g5 : Nat) (a b : Int) : Prop where
  p8 : BxF W f8 23 g4
  p9 : BxF W f9 24 g5
  i4 : BxI W g4 a
  i5 : BxI W g5 b
theorem Cap.below {W W1 : World} {f8 f9 g4 g5 : Nat} {a b : Int} (h : Cap W f8 f9 g4 g5 a b) (hb : Below W.heap.size W W1) : Cap W1 f8 f9 g4 g5 a b := ⟨h.p8.below hb, h.p9.below hb, h.i4.below hb, h.i5.below hb⟩
end Go.Proofs.Ytccppdmangbdoaa.V
end
section
set_option linter.unusedVariables false
set_option linter.unusedSimpArgs false
namespace Go.Proofs.Ytccppdmangbdoaa.V
open Go.RowKit Go.Proofs.YtccppdmangbdoaaW.PrintWords Go.Proofs.YtccppdmangbdoaaW.PrintLast Go.Proofs.YtccppdmangbdoaaW.PrintMore
theorem min_told (L : Int) (l : List E) : block_Block_Min.f L l = some (match l with | [] => (0, 0, false) | a :: _ => (a.f0, a.f1, true)) := by
 unfold block_Block_Min.f
 cases l with
 | nil => rfl
 | cons a t =>
  have h1 : ¬ ((a :: t).length : Int) = 0 := by simp; omega
  have h2 : 0 < ((a :: t).length : Int) := by simp
  rw [if_neg h1, if_pos h2]
  rfl
theorem cut_told (k : Nat) (L : Int) (x : List E) (n : Int) (hl : x.length < 1000000000) (hk : 62 < k) : block_Cut.f k L x n =
 some (((lev ((x.take (clampN n x.length)).length : Int) : Nat) : Int), sortE (x.take (clampN n x.length)), ((lev ((x.drop (clampN n x.length)).length : Int) : Nat) : Int), sortE (x.drop (clampN n x.length))) := by
 unfold block_Cut.f
 have h := clamp_told n x.length
 rw [if_pos h.1, if_pos h.2, of_told k _ (by rw [List.length_take]; omega) hk]
 simp only [Option.bind_some]
 rw [of_told k _ (by rw [List.length_drop]; omega) hk]
 rfl
theorem awake6 (k : Nat) (hk : 70 ≤ k) : vergerlaw6_awake.f k = some true := by
 have hs : sortE [(⟨3, 1⟩ : E), ⟨1, 2⟩, ⟨2, 3⟩] = [⟨1, 2⟩, ⟨2, 3⟩, ⟨3, 1⟩] := sortE_eq (by unfold SortedE; simp [leE_iff]) (by
  exact ((List.Perm.swap (⟨2, 3⟩ : E) ⟨3, 1⟩ []).cons ⟨1, 2⟩).symm.trans (List.Perm.swap (⟨3, 1⟩ : E) ⟨1, 2⟩ [⟨2, 3⟩] |>.trans (List.Perm.refl _)))
 have ho := of_told k [(⟨3, 1⟩ : E), ⟨1, 2⟩, ⟨2, 3⟩] (by decide) (by omega)
 have hok := blockok_of k [(⟨3, 1⟩ : E), ⟨1, 2⟩, ⟨2, 3⟩] (by decide) (by simp; omega)
 rw [hs] at ho hok
 have l3 : ((lev (([(⟨3, 1⟩ : E), ⟨1, 2⟩, ⟨2, 3⟩].length : Nat) : Int) : Nat) : Int) = 2 := by decide
 rw [l3] at ho hok
 have l5 : ((lev 5 : Nat) : Int) = 3 := by decide
 unfold vergerlaw6_awake.f
 rw [ho]
 simp only [Option.bind_some, min_told]
 rw [level_told k 5 (by omega), l5]
 simp only [Option.bind_some]
 rw [if_pos (by first | rfl | trivial), if_pos (by first | rfl | trivial), hok]
 rfl
theorem few_told (l : List E) : vergerlaw6_Few.f l = some (decide ((l.length : Int) ≤ 120)) := rfl
end Go.Proofs.Ytccppdmangbdoaa.V
end
section
set_option linter.unusedVariables false
set_option linter.unusedSimpArgs false
namespace Go.Proofs.Ytccppdmangbdoaa.V
open Go.RowKit Go.Proofs.YtccppdmangbdoaaW.PrintWords Go.Proofs.YtccppdmangbdoaaW.PrintLast Go.Proofs.YtccppdmangbdoaaW.PrintMore
theorem reflevel_loop (n : Int) : ∀ (d k i : Nat), i + d = 62 → d < k → vergerref5_Level.l0 k n (i : Int) = some ((levGo d i n : Nat) : Int) := by
 intro d
 induction d with
 | zero =>
  intro k i hd hk
  obtain ⟨k, rfl, _⟩ := succ_of hk
  simp only [vergerref5_Level.l0]
  rw [if_neg (by omega)]
  rfl
 | succ d ih =>
  intro k i hd hk
  obtain ⟨k, rfl, hk'⟩ := succ_of hk
  simp only [vergerref5_Level.l0]
  rw [if_pos (by omega), if_pos (by omega), shl_one (by omega), wrap_nat (by omega), ih k (i + 1) (by omega) (by omega)]
  simp only [levGo]
  by_cases hc : (2 : Int) ^ i < n
  · rw [if_pos hc, if_pos hc]
  · rw [if_neg hc, if_neg hc]
theorem reflevel_told (k : Nat) (n : Int) (hk : 62 < k) : vergerref5_Level.f k n = some ((lev n : Nat) : Int) := reflevel_loop n 62 k 0 (by omega) hk
theorem refof_told (k : Nat) (l : List E) (hl : l.length < 1000000000) (hk : 2 * l.length + 63 ≤ k) : vergerref5_Of.f k l = some (((lev (l.length : Int) : Nat) : Int), sortE l) := by
 unfold vergerref5_Of.f
 rw [reflevel_told k _ (by omega)]
 simp only [Option.bind_some]
 rw [refsort_told k l hl (by omega)]
 rfl
end Go.Proofs.Ytccppdmangbdoaa.V
end
section
set_option linter.unusedVariables false
set_option linter.unusedSimpArgs false
namespace Go.Proofs.Ytccppdmangbdoaa.V
open Go.RowKit Go.Proofs.YtccppdmangbdoaaW.PrintWords Go.Proofs.YtccppdmangbdoaaW.PrintLast Go.Proofs.YtccppdmangbdoaaW.PrintMore
def hasN (g : List Int) (x : Int) : Bool := g.any (fun y => decide (y = x))
theorem has_loop (g : List Int) (x : Int) (hg : g.length < 1000000000) : ∀ (n k i : Nat), n + i = g.length → n < k → vergerlaw6_has.l0 k g x (i : Int) = some (hasN (g.drop i) x) := by
 intro n
 induction n with
 | zero =>
  intro k i h hk
  obtain ⟨k, rfl⟩ : ∃ q, k = q + 1 := ⟨k - 1, by omega⟩
  simp only [vergerlaw6_has.l0]
  rw [if_neg (by omega), List.drop_eq_nil_of_le (by omega)]
  rfl
 | succ n ih =>
  intro k i h hk
  obtain ⟨k, rfl⟩ : ∃ q, k = q + 1 := ⟨k - 1, by omega⟩
  simp only [vergerlaw6_has.l0]
  rw [if_pos (by omega), if_pos (by omega)]
  have hrd : rd g (i : Int) = g[i]'(by omega) := by unfold rd; rw [Int.toNat_natCast, List.getD_eq_getElem?_getD, List.getElem?_eq_getElem (by omega)]; rfl
  have hw : wrap64 ((i : Int) + 1) = ((i + 1 : Nat) : Int) := by unfold wrap64; omega
  rw [hrd, hw, ih k (i + 1) (by omega) (by omega), List.drop_eq_getElem_cons (show i < g.length by omega)]
  unfold hasN
  rw [List.any_cons]
  by_cases he : g[i]'(by omega) = x
  · rw [if_pos he]; simp [he]
  · rw [if_neg he]; simp [he]
theorem has_told (k : Nat) (g : List Int) (x : Int) (hg : g.length < 1000000000) (hk : g.length < k) : vergerlaw6_has.f k g x = some (hasN g x) := by
 unfold vergerlaw6_has.f
 have := has_loop g x hg g.length k 0 (by omega) hk
 rwa [List.drop_zero] at this
theorem same6_tells (k : Nat) (L : Int) (l : List E) (hl : l.length < 1000000000) (hk : l.length < k) : vergerlaw6_Same.f k L l L l = some true := by
 unfold vergerlaw6_Same.f
 rw [if_pos (by first | rfl | trivial), same_told k l hl hk]
 rfl
theorem mkB_len (l : List E) : (mkB l).f1.length = l.length := sortE_length l
theorem mkB_f1_perm (l : List E) : (mkB l).f1.Perm l := sortE_perm l
theorem merges_two (k : Nat) (a b : List E) (hl : a.length + b.length < 1000000000) (hk : 62 < k) : block_Merge.f k (mkB a).f0 (mkB a).f1 (mkB b).f0 (mkB b).f1 = some ((mkB (a ++ b)).f0, (mkB (a ++ b)).f1) := by
 rw [blockmerge_told k _ _ _ _ (by rw [mkB_len, mkB_len]; exact hl) hk, mkB_len, mkB_len]
 unfold mkB
 dsimp only
 rw [sortE_of_perm (((sortE_perm a).append (sortE_perm b)))]
 rw [List.length_append]
theorem refof_mk (k : Nat) (l : List E) (hl : l.length < 1000000000) (hk : 2 * l.length + 63 ≤ k) : vergerref5_Of.f k l = some ((mkB l).f0, (mkB l).f1) := refof_told k l hl hk
theorem cut_mk (k : Nat) (L : Int) (x : List E) (n : Int) (hl : x.length < 1000000000) (hk : 62 < k) : block_Cut.f k L x n = some ((mkB (x.take (clampN n x.length))).f0, (mkB (x.take (clampN n x.length))).f1, (mkB (x.drop (clampN n x.length))).f0, (mkB (x.drop (clampN n x.length))).f1) := cut_told k L x n hl hk
theorem left_mk (p : Int → Bool) (a : List E) : mkB ((mkB a).f1.filter fun e => !p e.f1) = mkB (a.filter fun e => !p e.f1) := mkB_perm ((mkB_f1_perm a).filter _)
def BxL (W : World) (g7 : Nat) (G : Option Addr) (c : Nat) (g : List Int) : Prop := W.heap[g7]? = some (.cells #[.slice G g.length c] 56 (0, 0)) ∧ Kd.C (Kd.int .i64) W G g.length g ∧ g.length ≤ c
theorem BxL.below {W W1 : World} {g7 c : Nat} {G : Option Addr} {g : List Int} (h : BxL W g7 G c g) (hb : Below W.heap.size W W1) : BxL W1 g7 G c g := ⟨blk_below h.1 hb, Kd.C_below h.2.1 hb, h.2.2⟩
theorem BxL.c0 {W : World} {g7 c : Nat} {G : Option Addr} {g : List Int} (h : BxL W g7 G c g) : W.cell? ⟨g7, 0, none⟩ = some (.slice G g.length c) := (blk_cell h.1 0).trans rfl
set_option maxHeartbeats 800000 in
theorem askM1 (g7 : Nat) (G : Option Addr) (c : Nat) (g : List Int) (hg : g.length ≤ 100) : AskI 33 #[.pointer (some ⟨g7, 0, none⟩)] (hasN g) (fun W => BxL W g7 G c g) := by
 refine ⟨⟨_, Try.func33, by kernel_rfl, rfl⟩, fun _ _ h hb => h.below hb, fun x W hi => ?_⟩
 have HI := Aside0.mk hi
 have c0 := hi.c0
 clear hi
 show Calls Try.prog 33 #[.int .i64 x, .pointer (some ⟨g7, 0, none⟩)] W _
 go_enter Try.func33, Try.ntmps33
 go_wp2_with fail
 refine (vergerlaw6_has.calls 1000 G c g x (hasN g x) _ HI.out.2.1 HI.out.2.2 (has_told 1000 g x (by omega) (by omega))).mono ?_
 rintro y w2 ⟨rfl, ⟨nd, rfl⟩⟩
 go_wp2
 go_ret
 exact ⟨rfl, pw_below_drewN (Below.refl _ _) nd⟩
end Go.Proofs.Ytccppdmangbdoaa.V
end
