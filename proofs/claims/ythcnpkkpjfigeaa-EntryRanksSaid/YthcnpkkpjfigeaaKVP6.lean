-- a text of this work, without what this claim doesn't use (wip/shake.py)
import Derived.Test.YthcnpkkpjfigeaaKVP5S
import Derived.Test.YthcnpkkpjfigeaaKVPentryZ
import Derived.Test.YthcnpkkpjfigeaaKVPentry1
import Derived.Test.YthcnpkkpjfigeaaKVPslices
import Derived.Test.YthcnpkkpjfigeaaKVPslices2
import Derived.Test.YthcnpkkpjfigeaaKVK
set_option linter.unusedVariables false
set_option linter.unusedSimpArgs false
namespace Go.Proofs.Ythcnpkkpjfigeaa.V
open Go.RowKit Go.Proofs.YthcnpkkpjfigeaaW.PrintWords Go.Proofs.YthcnpkkpjfigeaaW.PrintLast Go.Proofs.YthcnpkkpjfigeaaW.PrintMore
theorem same_loop (l : List E) (hl : l.length < 1000000000) : ∀ (d k i : Nat), l.length - i = d → i ≤ l.length → d < k → vergerref5_Same.l0 k l l (i : Int) = some true := by
 intro d
 induction d with
 | zero =>
  intro k i hd hi hk
  obtain ⟨k, rfl, _⟩ := succ_of hk
  simp only [vergerref5_Same.l0]
  rw [if_neg (by omega)]
 | succ d ih =>
  intro k i hd hi hk
  obtain ⟨k, rfl, hk'⟩ := succ_of hk
  have hz : (i : Int) < (l.length : Int) := by omega
  have h0 : (0 : Int) ≤ (i : Int) := by omega
  simp only [vergerref5_Same.l0, if_pos hz, if_pos h0, wrap_nat (show i ≤ 4611686018427387904 by omega)]
  rw [if_neg (by simp)]
  exact ih k (i + 1) (by omega) (by omega) (by omega)
theorem same_told (k : Nat) (l : List E) (hl : l.length < 1000000000) (hk : l.length < k) : vergerref5_Same.f k l l = some true := by
 unfold vergerref5_Same.f
 rw [if_pos rfl]
 exact same_loop l hl l.length k 0 (by omega) (by omega) hk
theorem merge_sort {x y : List E} (hx : SortedE x) (hy : SortedE y) : List.merge x y leE = sortE (x ++ y) :=
 (sortE_eq (List.pairwise_merge leE_trans leE_total x y hx hy) (List.merge_perm_append leE)).symm
theorem merge_loop : ∀ (d k : Nat) (x y out : List E), x.length + y.length = d → out.length + d < 1000000000 → 2 * d + 4 ≤ k → entry_Merge.l0 k x y out = some (out ++ List.merge x y leE) := by
 intro d
 induction d with
 | zero =>
  intro k x y out hd hl hk
  obtain ⟨k, rfl, _⟩ := succ_of (show 0 < k by omega)
  obtain ⟨k, rfl, _⟩ := succ_of (show 0 < k by omega)
  have hx : x = [] := List.length_eq_zero_iff.1 (by omega)
  have hy : y = [] := List.length_eq_zero_iff.1 (by omega)
  subst hx; subst hy
  simp only [entry_Merge.l0, entry_Merge.j1, List.length_nil]
  rw [if_neg (by omega), if_neg (by simp), if_pos (by omega)]
  simp only [Option.bind_some, List.append_nil]
  rw [if_pos (by omega)]
  simp
 | succ d ih =>
  intro k x y out hd hl hk
  obtain ⟨k, rfl, _⟩ := succ_of (show 0 < k by omega)
  obtain ⟨k, rfl, _⟩ := succ_of (show 0 < k by omega)
  have rest : entry_Merge.j1 (k + 1) x y out false = some ((out ++ x) ++ y) := by
   simp only [entry_Merge.j1]
   rw [if_neg (by simp), if_pos (by omega)]
   simp only [Option.bind_some]
   rw [if_pos (by rw [List.length_append]; omega)]
  cases x with
  | nil =>
   simp only [entry_Merge.l0]
   rw [if_neg (by simp), rest]
   simp
  | cons a x =>
   cases y with
   | nil =>
    simp only [entry_Merge.l0]
    rw [if_pos (by simp), show decide (((([] : List E)).length : Int) > 0) = false by simp, rest]
    simp
   | cons b y =>
    have ra : rd_T33 (a :: x) 0 = a := rfl
    have rb : rd_T33 (b :: y) 0 = b := rfl
    have la : ((a :: x).length : Int) > 0 := by simp
    have lb : ((b :: y).length : Int) > 0 := by simp
    have la' : (0 : Int) < ((a :: x).length : Int) := la
    have lb' : (0 : Int) < ((b :: y).length : Int) := lb
    have la1 : (1 : Int) ≤ ((a :: x).length : Int) := by omega
    have lb1 : (1 : Int) ≤ ((b :: y).length : Int) := by omega
    have hroom : out.length < 8796093022208 := by omega
    simp only [List.length_cons] at hd
    simp only [entry_Merge.l0, entry_Merge.j1, if_pos la, if_pos la', if_pos lb', decide_eq_true lb, if_true, ra, rb, less_told k (show 3 ≤ k by omega), Option.bind_some, if_pos hroom, if_pos la1, if_pos lb1, List.drop_succ_cons, List.drop_zero]
    rw [show (⟨a.f0, a.f1⟩ : E) = a from rfl, show (⟨b.f0, b.f1⟩ : E) = b from rfl]
    by_cases hc : ltE b a = true
    · rw [if_pos hc, ih k (a :: x) y (out ++ [b]) (by simp only [List.length_cons]; omega) (by simp only [List.length_append, List.length_cons, List.length_nil]; omega) (by omega)]
      rw [List.cons_merge_cons, if_neg (by simp [leE, hc])]
      simp
    · rw [if_neg hc, ih k x (b :: y) (out ++ [a]) (by simp only [List.length_cons]; omega) (by simp only [List.length_append, List.length_cons, List.length_nil]; omega) (by omega)]
      rw [List.cons_merge_cons, if_pos (by simp [leE, hc])]
      simp
theorem merge_told (k : Nat) (x y : List E) (hx : SortedE x) (hy : SortedE y) (hl : x.length + y.length < 1000000000) (hk : 2 * (x.length + y.length) + 4 ≤ k) : entry_Merge.f k x y = some (sortE (x ++ y)) := by
 unfold entry_Merge.f
 rw [if_pos hl, merge_loop (x.length + y.length) k x y [] rfl (by simpa using hl) hk, merge_sort hx hy]
 rfl
theorem place_loop (l : List E) (hs : SortedE l) (hl : l.length < 1000000000) (e0 e1 : Int) : ∀ (d k lo hi : Nat), hi - lo ≤ d → lo ≤ placeE l ⟨e0, e1⟩ → placeE l ⟨e0, e1⟩ ≤ hi → hi ≤ l.length → d + 4 ≤ k →
 ∃ f, api_Entry_51.l0 k l (l.length : Int) (lo : Int) (hi : Int) e0 e1 = some (((placeE l ⟨e0, e1⟩ : Nat) : Int), f) := by
 intro d
 induction d with
 | zero =>
  intro k lo hi hd h1 h2 h3 hk
  obtain ⟨k, rfl, _⟩ := succ_of (show 0 < k by omega)
  have : lo = placeE l ⟨e0, e1⟩ := by omega
  simp only [api_Entry_51.l0]
  rw [if_neg (by omega)]
  by_cases hc : (lo : Int) < (l.length : Int)
  · rw [if_pos hc, if_pos (by omega), if_pos hc, compare_told k (by omega)]
    exact ⟨_, by simp only [Option.bind_some]; rw [this]⟩
  · rw [if_neg hc, this]
    exact ⟨_, rfl⟩
 | succ d ih =>
  intro k lo hi hd h1 h2 h3 hk
  by_cases hlt : lo < hi
  · obtain ⟨k, rfl, _⟩ := succ_of (show 0 < k by omega)
    have hm : (lo + hi) / 2 < l.length := by omega
    have hz : (lo : Int) < (hi : Int) := by omega
    have hm0 : (0 : Int) ≤ (((lo + hi) / 2 : Nat) : Int) := by omega
    have hm1 : (((lo + hi) / 2 : Nat) : Int) < (l.length : Int) := by omega
    simp only [api_Entry_51.l0, if_pos hz, whalf (show lo + hi < 4611686018427387904 by omega), if_pos hm0, if_pos hm1, rd_get hm, compare_told k (show 3 ≤ k by omega), Option.bind_some, wrap_nat (show (lo + hi) / 2 ≤ 4611686018427387904 by omega)]
    have hp := placeE_sorted hs ⟨e0, e1⟩ ((lo + hi) / 2) _ (List.getElem?_eq_getElem hm)
    rw [show (⟨(l[(lo + hi) / 2]).f0, (l[(lo + hi) / 2]).f1⟩ : E) = l[(lo + hi) / 2] from rfl]
    by_cases hc : ltE l[(lo + hi) / 2] ⟨e0, e1⟩ = true
    · rw [if_pos ((cmpE_neg _ _).2 hc)]
      have := hp.1 hc
      exact ih k ((lo + hi) / 2 + 1) hi (by omega) (by omega) (by omega) (by omega) (by omega)
    · rw [if_neg (fun h => hc ((cmpE_neg _ _).1 h))]
      have : ¬ (lo + hi) / 2 < placeE l ⟨e0, e1⟩ := fun h => hc (hp.2 h)
      exact ih k lo ((lo + hi) / 2) (by omega) (by omega) (by omega) (by omega) (by omega)
  · exact ih k lo hi (by omega) h1 h2 h3 (by omega)
theorem place_told (k : Nat) (l : List E) (hs : SortedE l) (e0 e1 : Int) (hl : l.length < 1000000000) (hk : l.length + 4 ≤ k) : entry_Place.f k l e0 e1 = some ((placeE l ⟨e0, e1⟩ : Nat) : Int) := by
 obtain ⟨f, hf⟩ := place_loop l hs hl e0 e1 l.length k 0 l.length (by omega) (by omega) (placeE_le _ _) (by omega) hk
 unfold entry_Place.f api_Entry_51.f
 rw [show ((0 : Nat) : Int) = 0 from rfl] at hf
 rw [hf]
 rfl
end Go.Proofs.Ythcnpkkpjfigeaa.V
