-- a text of this work, without what this claim doesn't use (wip/shake.py)
import Derived.Test.YthcnpkkpjfigeaaMVP5S
import Derived.Test.YthcnpkkpjfigeaaMVPentryZ
import Derived.Test.YthcnpkkpjfigeaaMVPentry1
import Derived.Test.YthcnpkkpjfigeaaMVPslices
import Derived.Test.YthcnpkkpjfigeaaMVPslices2
import Derived.Test.YthcnpkkpjfigeaaMVK
set_option linter.unusedVariables false
set_option linter.unusedSimpArgs false
namespace Go.Proofs.Ythcnpkkpjfigeaa.V
open Go.RowKit Go.Proofs.YthcnpkkpjfigeaaW.PrintWords Go.Proofs.YthcnpkkpjfigeaaW.PrintLast Go.Proofs.YthcnpkkpjfigeaaW.PrintMore
theorem same_loop (l : List E) (hl : l.length < 1000000000) : ∀ (d k i : Nat), l.length - i = d → i ≤ l.length → d < k → vergerref5_Same.l0 k l l (i : Int) = some true := by
 intro d
 induction d with
 | zero =>
  intro k i hd hi hk
  obtain ⟨k, rfl, _⟩ := succ_of hk
  simp only [vergerref5_Same.l0]
  rw [if_neg (by omega)]
 | succ d ih =>
  intro k i hd hi hk
  obtain ⟨k, rfl, hk'⟩ := succ_of hk
  have hz : (i : Int) < (l.length : Int) := by omega
  have h0 : (0 : Int) ≤ (i : Int) := by omega
  simp only [vergerref5_Same.l0, if_pos hz, if_pos h0, wrap_nat (show i ≤ 4611686018427387904 by omega)]
  rw [if_neg (by simp)]
  exact ih k (i + 1) (by omega) (by omega) (by omega)
theorem same_told (k : Nat) (l : List E) (hl : l.length < 1000000000) (hk : l.length < k) : vergerref5_Same.f k l l = some true := by
 unfold vergerref5_Same.f
 rw [if_pos rfl]
 exact same_loop l hl l.length k 0 (by omega) (by omega) hk
def downAt (l : List E) (j : Nat) : Bool := ltE (l.getD (j + 1) z33) (l.getD j z33)
def okTo (l : List E) : Nat → Bool
  | 0 => true
  | n + 1 => okTo l n && !downAt l n
theorem okTo_iff (l : List E) (n : Nat) : okTo l n = true ↔ ∀ j, j < n → downAt l j = false := by
 induction n with
 | zero => simp [okTo]
 | succ n ih =>
  simp only [okTo, Bool.and_eq_true, ih, Bool.not_eq_true']
  constructor
  · intro h j hj
    rcases Nat.lt_succ_iff_lt_or_eq.1 hj with h1 | h1
    · exact h.1 j h1
    · subst h1; exact h.2
  · intro h
    exact ⟨fun j hj => h j (by omega), h n (by omega)⟩
theorem issorted_loop (l : List E) (hl : l.length < 1000000000) : ∀ (i k : Nat), i < l.length → i + 4 ≤ k → api_Entry_50.l0 k l (i : Int) = some (okTo l i) := by
 intro i
 induction i with
 | zero =>
  intro k hi hk
  obtain ⟨k, rfl, _⟩ := succ_of (show 0 < k by omega)
  simp only [api_Entry_50.l0]
  rw [if_neg (by omega)]
  rfl
 | succ i ih =>
  intro k hi hk
  obtain ⟨k, rfl, _⟩ := succ_of (show 0 < k by omega)
  have h0 : ((i + 1 : Nat) : Int) > 0 := by omega
  have h1 : (0 : Int) ≤ ((i + 1 : Nat) : Int) := by omega
  have h2 : ((i + 1 : Nat) : Int) < (l.length : Int) := by omega
  have hw : wrap64 (((i + 1 : Nat) : Int) - 1) = (i : Int) := by rw [wsub1 (by omega) (by omega)]; omega
  have h3 : (0 : Int) ≤ (i : Int) := by omega
  have h4 : (i : Int) < (l.length : Int) := by omega
  simp only [api_Entry_50.l0, if_pos h0, if_pos h1, if_pos h2, hw, if_pos h3, if_pos h4, compare_told k (show 3 ≤ k by omega), Option.bind_some, rd_nat]
  by_cases hc : downAt l i = true
  · rw [if_pos ((cmpE_neg _ _).2 hc)]
    simp only [okTo, hc]
    simp
  · rw [if_neg (fun h => hc ((cmpE_neg _ _).1 h)), ih k (by omega) (by omega)]
    simp only [okTo]
    simp [hc]
theorem issorted_told (k : Nat) (l : List E) (hl : l.length < 1000000000) (hk : l.length + 4 ≤ k) : entry_Sorted.f k l = some (okTo l (l.length - 1)) := by
 unfold entry_Sorted.f api_Entry_50.f
 by_cases hn : l.length = 0
 · rw [hn]
   obtain ⟨k, rfl, _⟩ := succ_of (show 0 < k by omega)
   have hw : wrap64 (((0 : Nat) : Int) - 1) = -1 := wrap_id (by omega) (by omega)
   rw [hw]
   simp [api_Entry_50.l0, okTo]
 · rw [wsub1 (by omega) (by omega), issorted_loop l hl (l.length - 1) k (by omega) (by omega)]
   rfl
theorem okTo_sorted {l : List E} (h : SortedE l) : okTo l (l.length - 1) = true := by
 rw [okTo_iff]
 intro j hj
 unfold downAt
 have h1 : j + 1 < l.length := by omega
 have h2 : j < l.length := by omega
 simp only [List.getD_eq_getElem?_getD, List.getElem?_eq_getElem h1, List.getElem?_eq_getElem h2, Option.getD_some]
 have := sorted_get h (show j < j + 1 by omega) (List.getElem?_eq_getElem h2) (List.getElem?_eq_getElem h1)
 simpa [leE] using this
theorem merge_sort {x y : List E} (hx : SortedE x) (hy : SortedE y) : List.merge x y leE = sortE (x ++ y) :=
 (sortE_eq (List.pairwise_merge leE_trans leE_total x y hx hy) (List.merge_perm_append leE)).symm
theorem merge_loop : ∀ (d k : Nat) (x y out : List E), x.length + y.length = d → out.length + d < 1000000000 → 2 * d + 4 ≤ k → entry_Merge.l0 k x y out = some (out ++ List.merge x y leE) := by
 intro d
 induction d with
 | zero =>
  intro k x y out hd hl hk
  obtain ⟨k, rfl, _⟩ := succ_of (show 0 < k by omega)
  obtain ⟨k, rfl, _⟩ := succ_of (show 0 < k by omega)
  have hx : x = [] := List.length_eq_zero_iff.1 (by omega)
  have hy : y = [] := List.length_eq_zero_iff.1 (by omega)
  subst hx; subst hy
  simp only [entry_Merge.l0, entry_Merge.j1, List.length_nil]
  rw [if_neg (by omega), if_neg (by simp), if_pos (by omega)]
  simp only [Option.bind_some, List.append_nil]
  rw [if_pos (by omega)]
  simp
 | succ d ih =>
  intro k x y out hd hl hk
  obtain ⟨k, rfl, _⟩ := succ_of (show 0 < k by omega)
  obtain ⟨k, rfl, _⟩ := succ_of (show 0 < k by omega)
  have rest : entry_Merge.j1 (k + 1) x y out false = some ((out ++ x) ++ y) := by
   simp only [entry_Merge.j1]
   rw [if_neg (by simp), if_pos (by omega)]
   simp only [Option.bind_some]
   rw [if_pos (by rw [List.length_append]; omega)]
  cases x with
  | nil =>
   simp only [entry_Merge.l0]
   rw [if_neg (by simp), rest]
   simp
  | cons a x =>
   cases y with
   | nil =>
    simp only [entry_Merge.l0]
    rw [if_pos (by simp), show decide (((([] : List E)).length : Int) > 0) = false by simp, rest]
    simp
   | cons b y =>
    have ra : rd_T33 (a :: x) 0 = a := rfl
    have rb : rd_T33 (b :: y) 0 = b := rfl
    have la : ((a :: x).length : Int) > 0 := by simp
    have lb : ((b :: y).length : Int) > 0 := by simp
    have la' : (0 : Int) < ((a :: x).length : Int) := la
    have lb' : (0 : Int) < ((b :: y).length : Int) := lb
    have la1 : (1 : Int) ≤ ((a :: x).length : Int) := by omega
    have lb1 : (1 : Int) ≤ ((b :: y).length : Int) := by omega
    have hroom : out.length < 8796093022208 := by omega
    simp only [List.length_cons] at hd
    simp only [entry_Merge.l0, entry_Merge.j1, if_pos la, if_pos la', if_pos lb', decide_eq_true lb, if_true, ra, rb, less_told k (show 3 ≤ k by omega), Option.bind_some, if_pos hroom, if_pos la1, if_pos lb1, List.drop_succ_cons, List.drop_zero]
    rw [show (⟨a.f0, a.f1⟩ : E) = a from rfl, show (⟨b.f0, b.f1⟩ : E) = b from rfl]
    by_cases hc : ltE b a = true
    · rw [if_pos hc, ih k (a :: x) y (out ++ [b]) (by simp only [List.length_cons]; omega) (by simp only [List.length_append, List.length_cons, List.length_nil]; omega) (by omega)]
      rw [List.cons_merge_cons, if_neg (by simp [leE, hc])]
      simp
    · rw [if_neg hc, ih k x (b :: y) (out ++ [a]) (by simp only [List.length_cons]; omega) (by simp only [List.length_append, List.length_cons, List.length_nil]; omega) (by omega)]
      rw [List.cons_merge_cons, if_pos (by simp [leE, hc])]
      simp
theorem merge_told (k : Nat) (x y : List E) (hx : SortedE x) (hy : SortedE y) (hl : x.length + y.length < 1000000000) (hk : 2 * (x.length + y.length) + 4 ≤ k) : entry_Merge.f k x y = some (sortE (x ++ y)) := by
 unfold entry_Merge.f
 rw [if_pos hl, merge_loop (x.length + y.length) k x y [] rfl (by simpa using hl) hk, merge_sort hx hy]
 rfl
end Go.Proofs.Ythcnpkkpjfigeaa.V
