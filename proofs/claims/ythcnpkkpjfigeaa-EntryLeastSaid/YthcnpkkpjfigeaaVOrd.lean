/- The order of entries: a total order; sorted lists are what their members are. -/
import Derived.Test.YthcnpkkpjfigeaaVK
set_option linter.unusedVariables false
set_option linter.unusedSimpArgs false
namespace Go.Proofs.Ythcnpkkpjfigeaa.V
open Go.RowKit Go.Proofs.YthcnpkkpjfigeaaW.PrintWords

/-- Entries. -/
abbrev E := S33
theorem E.ext' {a b : E} (h0 : a.f0 = b.f0) (h1 : a.f1 = b.f1) : a = b := by cases a; cases b; simp_all
/-- One stands ahead of another one. -/
def ltE (a b : E) : Bool := decide (a.f0 < b.f0) || (decide (a.f0 = b.f0) && decide (a.f1 < b.f1))
def leE (a b : E) : Bool := !ltE b a
theorem ltE_iff (a b : E) : ltE a b = true ↔ a.f0 < b.f0 ∨ (a.f0 = b.f0 ∧ a.f1 < b.f1) := by simp [ltE]
theorem ltE_false (a b : E) : ltE a b = false ↔ b.f0 < a.f0 ∨ (a.f0 = b.f0 ∧ b.f1 ≤ a.f1) := by
  rw [← Bool.not_eq_true, ltE_iff]; omega
theorem leE_iff (a b : E) : leE a b = true ↔ a.f0 < b.f0 ∨ (a.f0 = b.f0 ∧ a.f1 ≤ b.f1) := by
  unfold leE; rw [Bool.not_eq_true', ltE_false]; omega
theorem ltE_irrefl (a : E) : ltE a a = false := by rw [ltE_false]; omega
theorem ltE_asymm {a b : E} (h : ltE a b = true) : ltE b a = false := by rw [ltE_iff] at h; rw [ltE_false]; omega
theorem ltE_trans {a b c : E} (h : ltE a b = true) (k : ltE b c = true) : ltE a c = true := by rw [ltE_iff] at *; omega
theorem leE_trans (a b c : E) (h : leE a b = true) (k : leE b c = true) : leE a c = true := by rw [leE_iff] at *; omega
theorem leE_total (a b : E) : (leE a b || leE b a) = true := by
  rw [Bool.or_eq_true, leE_iff, leE_iff]; omega
theorem leE_refl (a : E) : leE a a = true := by rw [leE_iff]; omega
theorem leE_antisymm {a b : E} (h : leE a b = true) (k : leE b a = true) : a = b := by
  rw [leE_iff] at h k; exact E.ext' (by omega) (by omega)
theorem ltE_of_leE_ne {a b : E} (h : leE a b = true) (hn : a ≠ b) : ltE a b = true := by
  cases hl : ltE a b with
  | true => rfl
  | false => exact absurd (leE_antisymm h (by simp [leE, hl])) hn
theorem leE_of_ltE {a b : E} (h : ltE a b = true) : leE a b = true := by simp [leE, ltE_asymm h]
theorem ltE_of_lt_le {a b c : E} (h : ltE a b = true) (k : leE b c = true) : ltE a c = true := by rw [ltE_iff] at *; rw [leE_iff] at k; omega
theorem ltE_of_le_lt {a b c : E} (h : leE a b = true) (k : ltE b c = true) : ltE a c = true := by rw [ltE_iff] at *; rw [leE_iff] at h; omega
theorem ltE_tri (a b : E) : ltE a b = true ∨ a = b ∨ ltE b a = true := by
  rw [ltE_iff, ltE_iff]
  by_cases h : a.f0 = b.f0 ∧ a.f1 = b.f1
  · exact .inr (.inl (E.ext' h.1 h.2))
  · omega

/-- In order. -/
def SortedE (l : List E) : Prop := l.Pairwise fun a b => leE a b = true
/-- A list in order. -/
def sortE (l : List E) : List E := l.mergeSort leE
theorem sortE_perm (l : List E) : (sortE l).Perm l := List.mergeSort_perm l leE
theorem sortE_sorted (l : List E) : SortedE (sortE l) := List.pairwise_mergeSort leE_trans leE_total l
theorem sorted_eq {l m : List E} (hl : SortedE l) (hm : SortedE m) (h : l.Perm m) : l = m := h.eq_of_pairwise (fun a b _ _ h1 h2 => leE_antisymm h1 h2) hl hm
theorem sortE_eq {l m : List E} (hm : SortedE m) (h : m.Perm l) : sortE l = m := sorted_eq (sortE_sorted l) hm ((sortE_perm l).trans h.symm)
theorem sortE_of_perm {l m : List E} (h : l.Perm m) : sortE l = sortE m := sorted_eq (sortE_sorted l) (sortE_sorted m) ((sortE_perm l).trans (h.trans (sortE_perm m).symm))
theorem sortE_of_sorted {l : List E} (h : SortedE l) : sortE l = l := sortE_eq h (List.Perm.refl _)
theorem sortE_idem (l : List E) : sortE (sortE l) = sortE l := sortE_of_sorted (sortE_sorted l)
theorem sortE_length (l : List E) : (sortE l).length = l.length := (sortE_perm l).length_eq
theorem sortE_nil : sortE [] = [] := by simp [sortE]
theorem sortE_mem {l : List E} {x : E} : x ∈ sortE l ↔ x ∈ l := (sortE_perm l).mem_iff
theorem sorted_nil : SortedE [] := List.Pairwise.nil
theorem sorted_append {l m : List E} : SortedE (l ++ m) ↔ SortedE l ∧ SortedE m ∧ ∀ a ∈ l, ∀ b ∈ m, leE a b = true := List.pairwise_append
theorem sorted_cons {a : E} {l : List E} : SortedE (a :: l) ↔ (∀ b ∈ l, leE a b = true) ∧ SortedE l := List.pairwise_cons
theorem sorted_take {l : List E} (h : SortedE l) (n : Nat) : SortedE (l.take n) := h.sublist (List.take_sublist n l)
theorem sorted_drop {l : List E} (h : SortedE l) (n : Nat) : SortedE (l.drop n) := h.sublist (List.drop_sublist n l)
/-- Told by places. -/
theorem sorted_get {l : List E} (h : SortedE l) {i j : Nat} (hij : i < j) {a b : E} (ha : l[i]? = some a) (hb : l[j]? = some b) : leE a b = true := by
  obtain ⟨hi, rfl⟩ := List.getElem?_eq_some_iff.1 ha
  obtain ⟨hj, rfl⟩ := List.getElem?_eq_some_iff.1 hb
  exact List.pairwise_iff_getElem.1 h i j hi hj hij
/-- In order by neighbours alone. -/
theorem sorted_of_chain : ∀ {l : List E}, (∀ i a b, l[i]? = some a → l[i + 1]? = some b → leE a b = true) → SortedE l
  | [], _ => List.Pairwise.nil
  | [a], _ => List.pairwise_singleton _ _
  | a :: b :: l, h => by
    have ih : SortedE (b :: l) := sorted_of_chain (fun i x y hx hy => h (i + 1) x y hx hy)
    refine sorted_cons.2 ⟨fun c hc => ?_, ih⟩
    have hab := h 0 a b rfl rfl
    rcases List.mem_cons.1 hc with rfl | hc
    · exact hab
    · exact leE_trans _ _ _ hab ((sorted_cons.1 ih).1 c hc)

/-- One more, in its place (behind its equals). -/
def putE (l : List E) (e : E) : List E := (l.takeWhile fun x => leE x e) ++ e :: (l.dropWhile fun x => leE x e)
theorem putE_perm (l : List E) (e : E) : (putE l e).Perm (e :: l) := by
  unfold putE
  refine List.perm_middle.trans (List.Perm.cons _ ?_)
  rw [List.takeWhile_append_dropWhile]
theorem takeWhile_mem (l : List E) (p : E → Bool) : ∀ a ∈ l.takeWhile p, p a = true := by
  induction l with
  | nil => simp
  | cons b l ih =>
    intro a ha
    rw [List.takeWhile_cons] at ha
    split at ha
    · rename_i hb
      rcases List.mem_cons.1 ha with rfl | ha
      · exact hb
      · exact ih a ha
    · simp at ha
theorem dropWhile_gt {l : List E} (h : SortedE l) (e : E) : ∀ x ∈ l.dropWhile (fun x => leE x e), ltE e x = true := by
  induction l with
  | nil => simp
  | cons a l ih =>
    obtain ⟨h1, h2⟩ := sorted_cons.1 h
    rw [List.dropWhile_cons]
    split
    · exact ih h2
    · rename_i hn
      have hl : ltE e a = true := by simpa [leE] using hn
      intro x hx
      rcases List.mem_cons.1 hx with rfl | hx
      · exact hl
      · exact ltE_of_lt_le hl (h1 x hx)
theorem putE_sorted {l : List E} (h : SortedE l) (e : E) : SortedE (putE l e) := by
  unfold putE
  have hsub : SortedE (l.takeWhile fun x => leE x e) := h.sublist (List.takeWhile_sublist _)
  have hd : SortedE (l.dropWhile fun x => leE x e) := h.sublist (List.dropWhile_sublist _)
  have hle : ∀ a ∈ l.takeWhile (fun x => leE x e), leE a e = true := takeWhile_mem l _
  have hgt := dropWhile_gt h e
  refine sorted_append.2 ⟨hsub, sorted_cons.2 ⟨fun b hb => leE_of_ltE (hgt b hb), hd⟩, fun a ha b hb => ?_⟩
  rcases List.mem_cons.1 hb with rfl | hb
  · exact hle a ha
  · exact leE_trans _ _ _ (hle a ha) (leE_of_ltE (hgt b hb))
theorem putE_sort (l : List E) (e : E) : putE (sortE l) e = sortE (e :: l) := by
  refine sorted_eq (putE_sorted (sortE_sorted l) e) (sortE_sorted _) ((putE_perm _ _).trans ?_)
  exact (List.Perm.cons e (sortE_perm l)).trans (sortE_perm _).symm
theorem putE_length (l : List E) (e : E) : (putE l e).length = l.length + 1 := by rw [(putE_perm l e).length_eq]; rfl
/-- How many are Less than one. -/
def placeE (l : List E) (e : E) : Nat := l.countP fun x => ltE x e
theorem placeE_le (l : List E) (e : E) : placeE l e ≤ l.length := List.countP_le_length
theorem placeE_perm {l m : List E} (h : l.Perm m) (e : E) : placeE l e = placeE m e := h.countP_eq _
/-- In a list in order those that are Less stand first. -/
theorem placeE_sorted {l : List E} (h : SortedE l) (e : E) : ∀ (i : Nat) (a : E), l[i]? = some a → (ltE a e = true ↔ i < placeE l e) := by
  induction l with
  | nil => simp
  | cons b l ih =>
    obtain ⟨h1, h2⟩ := sorted_cons.1 h
    intro i a ha
    unfold placeE
    rw [List.countP_cons]
    cases i with
    | zero =>
      have : b = a := by simpa using ha
      subst this
      cases hb : ltE b e with
      | true => simp
      | false =>
        simp only [Bool.false_eq_true, if_false, Nat.add_zero, false_iff, Nat.not_lt]
        rw [Nat.le_zero, List.countP_eq_zero]
        intro x hx
        have := h1 x hx
        intro hlt
        rw [ltE_of_le_lt this hlt] at hb
        cases hb
    | succ i =>
      have ha' : l[i]? = some a := by simpa using ha
      have hm : a ∈ l := List.mem_of_getElem? ha'
      have hba := h1 a hm
      rw [ih h2 i a ha']
      unfold placeE
      cases hb : ltE b e with
      | true => simp
      | false =>
        have h0 : List.countP (fun x => ltE x e) l = 0 := by
          rw [List.countP_eq_zero]
          intro x hx hlt
          rw [ltE_of_le_lt (h1 x hx) hlt] at hb
          cases hb
        rw [h0]; simp
end Go.Proofs.Ythcnpkkpjfigeaa.V
