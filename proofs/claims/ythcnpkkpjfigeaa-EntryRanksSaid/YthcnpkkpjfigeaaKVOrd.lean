-- a text of this work, without what this claim doesn't use (wip/shake.py)
import Derived.Test.YthcnpkkpjfigeaaKVK
set_option linter.unusedVariables false
set_option linter.unusedSimpArgs false
namespace Go.Proofs.Ythcnpkkpjfigeaa.V
open Go.RowKit Go.Proofs.YthcnpkkpjfigeaaW.PrintWords
abbrev E := S33
theorem E.ext' {a b : E} (h0 : a.f0 = b.f0) (h1 : a.f1 = b.f1) : a = b := by cases a; cases b; simp_all
def ltE (a b : E) : Bool := decide (a.f0 < b.f0) || (decide (a.f0 = b.f0) && decide (a.f1 < b.f1))
def leE (a b : E) : Bool := !ltE b a
theorem ltE_iff (a b : E) : ltE a b = true ↔ a.f0 < b.f0 ∨ (a.f0 = b.f0 ∧ a.f1 < b.f1) := by simp [ltE]
theorem ltE_false (a b : E) : ltE a b = false ↔ b.f0 < a.f0 ∨ (a.f0 = b.f0 ∧ b.f1 ≤ a.f1) := by
 rw [← Bool.not_eq_true, ltE_iff]; omega
theorem leE_iff (a b : E) : leE a b = true ↔ a.f0 < b.f0 ∨ (a.f0 = b.f0 ∧ a.f1 ≤ b.f1) := by
 unfold leE; rw [Bool.not_eq_true', ltE_false]; omega
theorem ltE_irrefl (a : E) : ltE a a = false := by rw [ltE_false]; omega
theorem ltE_asymm {a b : E} (h : ltE a b = true) : ltE b a = false := by rw [ltE_iff] at h; rw [ltE_false]; omega
theorem leE_trans (a b c : E) (h : leE a b = true) (k : leE b c = true) : leE a c = true := by rw [leE_iff] at *; omega
theorem leE_total (a b : E) : (leE a b || leE b a) = true := by
 rw [Bool.or_eq_true, leE_iff, leE_iff]; omega
theorem leE_refl (a : E) : leE a a = true := by rw [leE_iff]; omega
theorem leE_antisymm {a b : E} (h : leE a b = true) (k : leE b a = true) : a = b := by
 rw [leE_iff] at h k; exact E.ext' (by omega) (by omega)
theorem leE_of_ltE {a b : E} (h : ltE a b = true) : leE a b = true := by simp [leE, ltE_asymm h]
theorem ltE_of_lt_le {a b c : E} (h : ltE a b = true) (k : leE b c = true) : ltE a c = true := by rw [ltE_iff] at *; rw [leE_iff] at k; omega
theorem ltE_of_le_lt {a b c : E} (h : leE a b = true) (k : ltE b c = true) : ltE a c = true := by rw [ltE_iff] at *; rw [leE_iff] at h; omega
def SortedE (l : List E) : Prop := l.Pairwise fun a b => leE a b = true
def sortE (l : List E) : List E := l.mergeSort leE
theorem sortE_perm (l : List E) : (sortE l).Perm l := List.mergeSort_perm l leE
theorem sortE_sorted (l : List E) : SortedE (sortE l) := List.pairwise_mergeSort leE_trans leE_total l
theorem sorted_eq {l m : List E} (hl : SortedE l) (hm : SortedE m) (h : l.Perm m) : l = m := h.eq_of_pairwise (fun a b _ _ h1 h2 => leE_antisymm h1 h2) hl hm
theorem sortE_eq {l m : List E} (hm : SortedE m) (h : m.Perm l) : sortE l = m := sorted_eq (sortE_sorted l) hm ((sortE_perm l).trans h.symm)
theorem sortE_of_perm {l m : List E} (h : l.Perm m) : sortE l = sortE m := sorted_eq (sortE_sorted l) (sortE_sorted m) ((sortE_perm l).trans (h.trans (sortE_perm m).symm))
theorem sortE_of_sorted {l : List E} (h : SortedE l) : sortE l = l := sortE_eq h (List.Perm.refl _)
theorem sortE_length (l : List E) : (sortE l).length = l.length := (sortE_perm l).length_eq
theorem sortE_nil : sortE [] = [] := by simp [sortE]
theorem sortE_mem {l : List E} {x : E} : x ∈ sortE l ↔ x ∈ l := (sortE_perm l).mem_iff
theorem sorted_nil : SortedE [] := List.Pairwise.nil
theorem sorted_append {l m : List E} : SortedE (l ++ m) ↔ SortedE l ∧ SortedE m ∧ ∀ a ∈ l, ∀ b ∈ m, leE a b = true := List.pairwise_append
theorem sorted_cons {a : E} {l : List E} : SortedE (a :: l) ↔ (∀ b ∈ l, leE a b = true) ∧ SortedE l := List.pairwise_cons
theorem sorted_take {l : List E} (h : SortedE l) (n : Nat) : SortedE (l.take n) := h.sublist (List.take_sublist n l)
theorem sorted_get {l : List E} (h : SortedE l) {i j : Nat} (hij : i < j) {a b : E} (ha : l[i]? = some a) (hb : l[j]? = some b) : leE a b = true := by
 obtain ⟨hi, rfl⟩ := List.getElem?_eq_some_iff.1 ha
 obtain ⟨hj, rfl⟩ := List.getElem?_eq_some_iff.1 hb
 exact List.pairwise_iff_getElem.1 h i j hi hj hij
def placeE (l : List E) (e : E) : Nat := l.countP fun x => ltE x e
theorem placeE_le (l : List E) (e : E) : placeE l e ≤ l.length := List.countP_le_length
theorem placeE_sorted {l : List E} (h : SortedE l) (e : E) : ∀ (i : Nat) (a : E), l[i]? = some a → (ltE a e = true ↔ i < placeE l e) := by
 induction l with
 | nil => simp
 | cons b l ih =>
  obtain ⟨h1, h2⟩ := sorted_cons.1 h
  intro i a ha
  unfold placeE
  rw [List.countP_cons]
  cases i with
  | zero =>
   have : b = a := by simpa using ha
   subst this
   cases hb : ltE b e with
   | true => simp
   | false =>
    simp only [Bool.false_eq_true, if_false, Nat.add_zero, false_iff, Nat.not_lt]
    rw [Nat.le_zero, List.countP_eq_zero]
    intro x hx
    have := h1 x hx
    intro hlt
    rw [ltE_of_le_lt this hlt] at hb
    cases hb
  | succ i =>
   have ha' : l[i]? = some a := by simpa using ha
   have hm : a ∈ l := List.mem_of_getElem? ha'
   have hba := h1 a hm
   rw [ih h2 i a ha']
   unfold placeE
   cases hb : ltE b e with
   | true => simp
   | false =>
    have h0 : List.countP (fun x => ltE x e) l = 0 := by
     rw [List.countP_eq_zero]
     intro x hx hlt
     rw [ltE_of_le_lt (h1 x hx) hlt] at hb
     cases hb
    rw [h0]; simp
end Go.Proofs.Ythcnpkkpjfigeaa.V
