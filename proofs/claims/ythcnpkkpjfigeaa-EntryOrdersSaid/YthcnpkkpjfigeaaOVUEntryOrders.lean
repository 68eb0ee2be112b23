-- a text of this work, without what this claim doesn't use (wip/shake.py)
import Derived.Test.YthcnpkkpjfigeaaOVXSort
import Derived.Test.YthcnpkkpjfigeaaOVUEntryLeast
import Derived.Test.YthcnpkkpjfigeaaOVPEntryOrdersLb
set_option linter.unusedVariables false
set_option linter.unusedSimpArgs false
namespace Go.Proofs.Ythcnpkkpjfigeaa.V
open Go.RowKit Go.Proofs.YthcnpkkpjfigeaaW.PrintWords Go.Proofs.YthcnpkkpjfigeaaW.PrintLast Go.Proofs.YthcnpkkpjfigeaaW.PrintMore
theorem placeE_take (l : List E) (e : E) (i : Nat) (h : i < l.length) : placeE (l.take (i + 1)) e = placeE (l.take i) e + (if ltE l[i] e = true then 1 else 0) := by
 unfold placeE
 rw [List.take_succ_eq_append_getElem h, List.countP_append]
 simp [List.countP_cons]
theorem smaller_loop (l : List E) (e0 e1 : Int) (hl : l.length < 1000000000) : ∀ (d k i : Nat), l.length - i = d → i ≤ l.length → d + 4 ≤ k →
 entry_Smaller.l0 k ((placeE (l.take i) ⟨e0, e1⟩ : Nat) : Int) l (l.length : Int) (i : Int) e0 e1 = some ((placeE l ⟨e0, e1⟩ : Nat) : Int) := by
 intro d
 induction d with
 | zero =>
  intro k i hd hi hk
  obtain ⟨k, rfl, _⟩ := succ_of (show 0 < k by omega)
  have : i = l.length := by omega
  subst this
  simp only [entry_Smaller.l0]
  rw [if_neg (by omega), List.take_length]
 | succ d ih =>
  intro k i hd hi hk
  obtain ⟨k, rfl, _⟩ := succ_of (show 0 < k by omega)
  have hlt : i < l.length := by omega
  have hz : (i : Int) < (l.length : Int) := by omega
  have h0 : (0 : Int) ≤ (i : Int) := by omega
  have hp : placeE (l.take i) ⟨e0, e1⟩ ≤ 4611686018427387904 := Nat.le_trans (placeE_le _ _) (by rw [List.length_take]; omega)
  have hn := placeE_take l ⟨e0, e1⟩ i hlt
  have := ih k (i + 1) (by omega) (by omega) (by omega)
  rw [hn] at this
  simp only [entry_Smaller.l0, if_pos hz, if_pos h0, rd_get hlt, less_told k (show 3 ≤ k by omega), Option.bind_some, wrap_nat (show i ≤ 4611686018427387904 by omega), wrap_nat hp]
  by_cases hc : ltE l[i] ⟨e0, e1⟩ = true
  · rw [if_pos hc] at this ⊢
    exact this
  · rw [if_neg hc] at this ⊢
    exact this
theorem smaller_told (k : Nat) (l : List E) (e0 e1 : Int) (hl : l.length < 1000000000) (hk : l.length + 4 ≤ k) : entry_Smaller.f k l e0 e1 = some ((placeE l ⟨e0, e1⟩ : Nat) : Int) := by
 have := smaller_loop l e0 e1 hl l.length k 0 (by omega) (by omega) (by omega)
 unfold entry_Smaller.f
 simpa [placeE] using this
theorem bne_off (a b : E) (h : a = b) : (!(a.f0 == b.f0) || (!(a.f1 == b.f1))) = false := by subst h; simp
theorem orders_loop (l : List E) (hl : l.length ≤ 100) : ∀ (d k i : Nat), l.length - i = d → i ≤ l.length → d + l.length + 20 ≤ k →
 vergerlaw5_EntryOrders.l0 k l (sortE l) (i : Int) = some true := by
 intro d
 induction d with
 | zero =>
  intro k i hd hi hk
  obtain ⟨k, rfl, _⟩ := succ_of (show 0 < k by omega)
  simp only [vergerlaw5_EntryOrders.l0]
  rw [if_neg (by rw [sortE_length]; omega), awake5 k (by omega)]
  rfl
 | succ d ih =>
  intro k i hd hi hk
  obtain ⟨k, rfl, _⟩ := succ_of (show 0 < k by omega)
  have hlt : i < (sortE l).length := by rw [sortE_length]; omega
  have hz : (i : Int) < ((sortE l).length : Int) := by omega
  have h0 : (0 : Int) ≤ (i : Int) := by omega
  have hnext := ih k (i + 1) (by omega) (by omega) (by omega)
  have hpl : placeE l (sortE l)[i] = placeE (sortE l) (sortE l)[i] := placeE_perm (sortE_perm l).symm _
  have hs := placeE_sorted (sortE_sorted l) (sortE l)[i]
  have hi1 : ¬ ((placeE (sortE l) (sortE l)[i] : Nat) : Int) > (i : Int) := by
   have := hs i _ (List.getElem?_eq_getElem hlt)
   rw [ltE_irrefl] at this
   simp at this
   omega
  simp only [vergerlaw5_EntryOrders.l0, if_pos hz, if_pos h0, rd_get hlt, smaller_told k l _ _ (show l.length < 1000000000 by omega) (show l.length + 4 ≤ k by omega), Option.bind_some, wrap_nat (show i ≤ 4611686018427387904 by omega)]
  rw [show (⟨((sortE l)[i]).f0, ((sortE l)[i]).f1⟩ : E) = (sortE l)[i] from rfl, hpl, if_neg hi1]
  by_cases hq : ((placeE (sortE l) (sortE l)[i] : Nat) : Int) < (i : Int)
  · rw [if_pos hq]
    obtain ⟨j, rfl⟩ : ∃ j, i = j + 1 := ⟨i - 1, by omega⟩
    have hw : wrap64 (((j + 1 : Nat) : Int) - 1) = (j : Int) := by rw [wrap_id (by omega) (by omega)]; omega
    have hj : j < (sortE l).length := by omega
    have hjs := hs j _ (List.getElem?_eq_getElem hj)
    have hle := sorted_get (sortE_sorted l) (show j < j + 1 by omega) (List.getElem?_eq_getElem hj) (List.getElem?_eq_getElem hlt)
    have hne : (sortE l)[j + 1] = (sortE l)[j] := by
     apply leE_antisymm _ hle
     cases hc : ltE (sortE l)[j] (sortE l)[j + 1] with
     | true => have := hjs.1 hc; omega
     | false => simp [leE, hc]
    simp only [hw, rd_get hj]
    rw [if_pos (by omega), if_pos (by omega), bne_off _ _ hne]
    simpa using hnext
  · rw [if_neg hq]
    exact hnext
theorem EntryOrders_core (a b c : E) (l : List E) : ∃ k, vergerlaw5_EntryOrders.f k a.f0 a.f1 b.f0 b.f1 c.f0 c.f1 l = some true := by
 refine ⟨300, ?_⟩
 unfold vergerlaw5_EntryOrders.f
 by_cases hb : (l.length : Int) > 100
 · rw [if_pos hb, awake5 300 (by omega)]; rfl
 · rw [if_neg hb]
   have hj : vergerlaw5_EntryOrders.j0 300 l false = some true := by
    simp only [vergerlaw5_EntryOrders.j0, entry_Sort.f]
    rw [if_neg (by simp), if_pos (show l.length < 1000000000 by omega)]
    simp only [Option.bind_some]
    rw [if_pos (by rw [sortE_length])]
    exact orders_loop l (by omega) l.length _ 0 (by omega) (by omega) (by omega)
   simp only [less_told 300 (by omega), Option.bind_some]
   have haa := ltE_irrefl a
   cases hab : ltE a b with
   | true =>
    have hba := ltE_asymm hab
    cases hbc : ltE b c with
    | true =>
     have hac := ltE_trans hab hbc
     simp [hab, hba, haa, hbc, hac, hj]
    | false => simp [hab, hba, haa, hbc, hj]
   | false =>
    cases hba : ltE b a with
    | true => simp [hab, hba, haa, hj]
    | false =>
     have : a = b := by rcases ltE_tri a b with h | h | h <;> simp_all
     subst this
     simp [haa, hj]
theorem EntryOrders_pure (a0 a1 b0 b1 c0 c1 : Int) (l : List E) {P0 P1 P2 P3 P4 P5 P6 P7 : Prop} (_ : P0) (_ : P1) (_ : P2) (_ : P3) (_ : P4) (_ : P5) (_ : P6) (_ : P7) :
 ∃ k, vergerlaw5_EntryOrders.f k a0 a1 b0 b1 c0 c1 l = some true := EntryOrders_core ⟨a0, a1⟩ ⟨b0, b1⟩ ⟨c0, c1⟩ l
end Go.Proofs.Ythcnpkkpjfigeaa.V
