-- a text of this work, without what this claim doesn't use (wip/shake.py)
import Derived.Test.YthcnpkkpjfigeaaKVP5U
set_option linter.unusedVariables false
set_option linter.unusedSimpArgs false
namespace Go.Proofs.Ythcnpkkpjfigeaa.V
open Go.RowKit Go.Proofs.YthcnpkkpjfigeaaW.PrintWords Go.Proofs.YthcnpkkpjfigeaaW.PrintLast Go.Proofs.YthcnpkkpjfigeaaW.PrintMore
theorem sym_search (l : List E) (a m b mid : Nat) (hl : l.length < 1000000000) (ham : a < m) (hmb : m < b) (hbl : b ≤ l.length) (hmid : mid = (a + b) / 2) (r : List E) (lo hi : Nat) (hlh : (mid < m ∧ lo = mid + m - b ∧ hi = mid) ∨ (m ≤ mid ∧ lo = a ∧ hi = m))
 (final : ∀ s : Nat, lo ≤ s → s ≤ hi → (s = lo ∨ ltE (rd_T33 l ((mid + m - s : Nat) : Int)) (rd_T33 l ((s - 1 : Nat) : Int)) = false) → (s = hi ∨ ltE (rd_T33 l ((mid + m - 1 - s : Nat) : Int)) (rd_T33 l ((s : Nat) : Int)) = true) →
  Ev (fun k => if ((s : Nat) : Int) < ((m : Nat) : Int) then (api_Entry_67.j6 k l (a : Int) (m : Int) (b : Int) (mid : Int) (s : Int) (wrap64 (((mid + m : Nat) : Int) - ((s : Nat) : Int))) (decide (((m : Nat) : Int) < (wrap64 (((mid + m : Nat) : Int) - ((s : Nat) : Int)))))) else (api_Entry_67.j6 k l (a : Int) (m : Int) (b : Int) (mid : Int) (s : Int) (wrap64 (((mid + m : Nat) : Int) - ((s : Nat) : Int))) false)) r) :
 ∀ (d s t : Nat), t - s ≤ d → lo ≤ s → s ≤ t → t ≤ hi → (s = lo ∨ ltE (rd_T33 l ((mid + m - s : Nat) : Int)) (rd_T33 l ((s - 1 : Nat) : Int)) = false) → (t = hi ∨ ltE (rd_T33 l ((mid + m - 1 - t : Nat) : Int)) (rd_T33 l ((t : Nat) : Int)) = true) →
 Ev (fun k => api_Entry_67.l4 k l (a : Int) (m : Int) (b : Int) (mid : Int) ((mid + m : Nat) : Int) (s : Int) (t : Int) ((mid + m - 1 : Nat) : Int)) r := by
 intro d
 induction d with
 | zero =>
  intro s t hd h1 h2 h3 g1 g2
  have : s = t := by omega
  subst this
  refine Ev.step (fun k => by simp only [api_Entry_67.l4]; exact rfl) ?_
  have c : ¬ ((s : Nat) : Int) < ((s : Nat) : Int) := by omega
  simp only [if_neg c]
  exact final s h1 h3 g1 g2
 | succ d ih =>
  intro s t hd h1 h2 h3 g1 g2
  by_cases hst : s = t
  · exact ih s t (by omega) h1 h2 h3 g1 g2
  refine Ev.step (fun k => by simp only [api_Entry_67.l4]; exact rfl) ?_
  have c : ((s : Nat) : Int) < ((t : Nat) : Int) := by omega
  obtain ⟨h, hh⟩ : ∃ h, h = (s + t) / 2 := ⟨_, rfl⟩
  have b0 : s + t < 4611686018427387904 := by omega
  have b1 : h ≤ mid + m - 1 := by omega
  have b2 : mid + m - 1 < 4611686018427387904 := by omega
  have b3 : h ≤ 4611686018427387904 := by omega
  have c1 : (0 : Int) ≤ ((mid + m - 1 - h : Nat) : Int) := by omega
  have c2 : ((mid + m - 1 - h : Nat) : Int) < (l.length : Int) := by omega
  have c3 : (0 : Int) ≤ ((h : Nat) : Int) := by omega
  have c4 : ((h : Nat) : Int) < (l.length : Int) := by omega
  have k1 : h - s ≤ d := by omega
  have k2 : s ≤ h := by omega
  have k3 : h ≤ hi := by omega
  have k4 : t - (h + 1) ≤ d := by omega
  have k5 : lo ≤ h + 1 := by omega
  have k6 : h + 1 ≤ t := by omega
  have k7 : mid + m - (h + 1) = mid + m - 1 - h := by omega
  have k8 : h + 1 - 1 = h := by omega
  simp only [if_pos c, whalf b0, ← hh, wsub b1 b2, if_pos c1, if_pos c2, if_pos c3, if_pos c4]
  refine Ev.bind (sortcmp_ev (rd_T33 l ((mid + m - 1 - h : Nat) : Int)) (rd_T33 l ((h : Nat) : Int))) ?_
  cases hlt : ltE (rd_T33 l ((mid + m - 1 - h : Nat) : Int)) (rd_T33 l ((h : Nat) : Int)) with
  | true =>
   simp only [if_pos ((cmpE_neg _ _).2 hlt)]
   exact ih s h k1 h1 k2 k3 g1 (.inr hlt)
  | false =>
   have hn' : ¬ cmpE (rd_T33 l ((mid + m - 1 - h : Nat) : Int)) (rd_T33 l ((h : Nat) : Int)) < 0 := fun h => by rw [(cmpE_neg _ _).1 h] at hlt; cases hlt
   simp only [if_neg hn', wrap_nat b3]
   exact ih (h + 1) t k4 k5 k6 h3 (.inr (by rw [k7, k8]; exact hlt)) g2
theorem sym_fin (A X1 X2 Y1 Y2 C : List E) (n : Nat) (hn : X1.length + X2.length + Y1.length + Y2.length = n) (hmid : A.length + X1.length + Y1.length = (A.length + (A.length + n)) / 2) (hlen : A.length + n + C.length < 1000000000)
 (hX : SortedE (X1 ++ X2)) (hY : SortedE (Y1 ++ Y2)) (h12 : ∀ x ∈ X1, ∀ y ∈ Y2, leE x y = true) (h21 : ∀ y ∈ Y1, ∀ x ∈ X2, leE y x = true) (hx0 : 0 < X1.length + X2.length) (hy0 : 0 < Y1.length + Y2.length) (hn4 : 2 < n)
 (ih : ∀ (n' : Nat), n' < n → ∀ A X Y C : List E, X.length + Y.length = n' → 0 < X.length → 0 < Y.length → SortedE X → SortedE Y → (A ++ X ++ Y ++ C).length < 1000000000 →
  Ev (fun k => api_Entry_67.f k (A ++ X ++ Y ++ C) ((A.length : Nat) : Int) ((A.length + X.length : Nat) : Int) ((A.length + X.length + Y.length : Nat) : Int)) (A ++ sortE (X ++ Y) ++ C)) :
 Ev (fun k => if ((A.length + X1.length : Nat) : Int) < ((A.length + X1.length + X2.length : Nat) : Int) then (api_Entry_67.j6 k (A ++ (X1 ++ X2) ++ (Y1 ++ Y2) ++ C) ((A.length : Nat) : Int) ((A.length + X1.length + X2.length : Nat) : Int) ((A.length + n : Nat) : Int) ((A.length + X1.length + Y1.length : Nat) : Int) ((A.length + X1.length : Nat) : Int)
  ((A.length + X1.length + X2.length + Y1.length : Nat) : Int) (decide (((A.length + X1.length + X2.length : Nat) : Int) < ((A.length + X1.length + X2.length + Y1.length : Nat) : Int)))) else (api_Entry_67.j6 k (A ++ (X1 ++ X2) ++ (Y1 ++ Y2) ++ C) ((A.length : Nat) : Int) ((A.length + X1.length + X2.length : Nat) : Int) ((A.length + n : Nat) : Int) ((A.length + X1.length + Y1.length : Nat) : Int) ((A.length + X1.length : Nat) : Int)
  ((A.length + X1.length + X2.length + Y1.length : Nat) : Int) false)) (A ++ sortE (X1 ++ X2 ++ (Y1 ++ Y2)) ++ C) := by
 obtain ⟨sx1, sx2, sx⟩ := sorted_append.1 hX
 obtain ⟨sy1, sy2, sy⟩ := sorted_append.1 hY
 have hfin : sortE (X1 ++ X2 ++ (Y1 ++ Y2)) = sortE (X1 ++ Y1) ++ sortE (X2 ++ Y2) := sortE_eq (by
  refine sorted_append.2 ⟨sortE_sorted _, sortE_sorted _, fun u hu v hv => ?_⟩
  rcases List.mem_append.1 (sortE_mem.1 hu) with hu | hu <;> rcases List.mem_append.1 (sortE_mem.1 hv) with hv | hv
  · exact sx u hu v hv
  · exact h12 u hu v hv
  · exact h21 u hu v hv
  · exact sy u hu v hv) (by
  refine ((sortE_perm (X1 ++ Y1)).append (sortE_perm (X2 ++ Y2))).trans ?_
  rw [List.append_assoc, List.append_assoc]
  refine List.Perm.append_left X1 ?_
  rw [← List.append_assoc, ← List.append_assoc]
  exact List.Perm.append_right Y2 List.perm_append_comm)
 rw [hfin]
 have right : ∀ L : List E, L = sortE (X1 ++ Y1) → Ev (fun k => if ((A.length + X1.length + Y1.length : Nat) : Int) < ((A.length + X1.length + X2.length + Y1.length : Nat) : Int) then (if ((A.length + X1.length + X2.length + Y1.length : Nat) : Int) < ((A.length + n : Nat) : Int) then ((api_Entry_67.f k (A ++ L ++ (X2 ++ Y2) ++ C) ((A.length + X1.length + Y1.length : Nat) : Int) ((A.length + X1.length + X2.length + Y1.length : Nat) : Int) ((A.length + n : Nat) : Int)).bind fun t120 => (some t120)) else (some (A ++ L ++ (X2 ++ Y2) ++ C))) else (some (A ++ L ++ (X2 ++ Y2) ++ C)))
  (A ++ (sortE (X1 ++ Y1) ++ sortE (X2 ++ Y2)) ++ C) := by
  intro L hL
  have hLl : L.length = X1.length + Y1.length := by rw [hL, sortE_length]; simp
  by_cases h2 : 0 < X2.length
  · have c1 : ((A.length + X1.length + Y1.length : Nat) : Int) < ((A.length + X1.length + X2.length + Y1.length : Nat) : Int) := by omega
    simp only [if_pos c1]
    by_cases h3 : 0 < Y2.length
    · have c2 : ((A.length + X1.length + X2.length + Y1.length : Nat) : Int) < ((A.length + n : Nat) : Int) := by omega
      simp only [if_pos c2]
      refine Ev.bind (a := A ++ (sortE (X1 ++ Y1) ++ sortE (X2 ++ Y2)) ++ C) ?_ (Ev.now _)
      have := ih (X2.length + Y2.length) (by omega) (A ++ L) X2 Y2 C rfl h2 h3 sx2 sy2 (by simp [hLl]; omega)
      have e1 : (A ++ L).length = A.length + X1.length + Y1.length := by simp [hLl]; omega
      have e2 : (A ++ L).length + X2.length = A.length + X1.length + X2.length + Y1.length := by simp [hLl]; omega
      have e3 : (A ++ L).length + X2.length + Y2.length = A.length + n := by simp [hLl]; omega
      rw [e3, e2, e1] at this
      have e4 : A ++ L ++ X2 ++ Y2 ++ C = A ++ L ++ (X2 ++ Y2) ++ C := by simp
      have e5 : A ++ L ++ sortE (X2 ++ Y2) ++ C = A ++ (sortE (X1 ++ Y1) ++ sortE (X2 ++ Y2)) ++ C := by rw [hL]; simp
      rw [e4, e5] at this
      exact this
    · have : Y2 = [] := List.eq_nil_of_length_eq_zero (by omega)
      subst this
      have c2 : ¬ ((A.length + X1.length + X2.length + Y1.length : Nat) : Int) < ((A.length + n : Nat) : Int) := by simp at hn; omega
      simp only [if_neg c2]
      rw [List.append_nil, sortE_of_sorted sx2, hL]
      have e : A ++ sortE (X1 ++ Y1) ++ X2 ++ C = A ++ (sortE (X1 ++ Y1) ++ X2) ++ C := by simp
      rw [e]
      exact Ev.now _
  · have : X2 = [] := List.eq_nil_of_length_eq_zero (by omega)
    subst this
    have c1 : ¬ ((A.length + X1.length + Y1.length : Nat) : Int) < ((A.length + X1.length + ([] : List E).length + Y1.length : Nat) : Int) := by simp
    simp only [if_neg c1]
    rw [List.nil_append, sortE_of_sorted sy2, hL]
    have e : A ++ sortE (X1 ++ Y1) ++ Y2 ++ C = A ++ (sortE (X1 ++ Y1) ++ Y2) ++ C := by simp
    rw [e]
    exact Ev.now _
 have left : Ev (fun k => api_Entry_67.j7 k (A ++ (X1 ++ Y1) ++ (X2 ++ Y2) ++ C) ((A.length : Nat) : Int) ((A.length + n : Nat) : Int) ((A.length + X1.length + Y1.length : Nat) : Int) ((A.length + X1.length : Nat) : Int) ((A.length + X1.length + X2.length + Y1.length : Nat) : Int)) (A ++ (sortE (X1 ++ Y1) ++ sortE (X2 ++ Y2)) ++ C) := by
  refine Ev.step (fun k => by simp only [api_Entry_67.j7]; exact rfl) ?_
  by_cases h1 : 0 < X1.length
  · have c1 : ((A.length : Nat) : Int) < ((A.length + X1.length : Nat) : Int) := by omega
    simp only [if_pos c1]
    refine Ev.step (fun k => by simp only [api_Entry_67.j8]; exact rfl) ?_
    by_cases h2 : 0 < Y1.length
    · have c2 : ((A.length + X1.length : Nat) : Int) < ((A.length + X1.length + Y1.length : Nat) : Int) := by omega
      simp only [decide_eq_true c2, if_true]
      have := ih (X1.length + Y1.length) (by omega) A X1 Y1 (X2 ++ Y2 ++ C) rfl h1 h2 sx1 sy1 (by simp; omega)
      have e4 : A ++ X1 ++ Y1 ++ (X2 ++ Y2 ++ C) = A ++ (X1 ++ Y1) ++ (X2 ++ Y2) ++ C := by simp
      have e5 : A ++ sortE (X1 ++ Y1) ++ (X2 ++ Y2 ++ C) = A ++ sortE (X1 ++ Y1) ++ (X2 ++ Y2) ++ C := by simp
      rw [e4, e5] at this
      exact Ev.bind this (right _ rfl)
    · have : Y1 = [] := List.eq_nil_of_length_eq_zero (by omega)
      subst this
      have c2 : ¬ ((A.length + X1.length : Nat) : Int) < ((A.length + X1.length + ([] : List E).length : Nat) : Int) := by simp
      simp only [decide_eq_false c2, Bool.false_eq_true, if_false]
      have := right X1 (by rw [List.append_nil, sortE_of_sorted sx1])
      rw [List.append_nil] at this ⊢
      exact this
  · have : X1 = [] := List.eq_nil_of_length_eq_zero (by omega)
    subst this
    have c1 : ¬ ((A.length : Nat) : Int) < ((A.length + ([] : List E).length : Nat) : Int) := by simp
    simp only [if_neg c1]
    refine Ev.step (fun k => by simp only [api_Entry_67.j8]; exact rfl) ?_
    simp only [Bool.false_eq_true, if_false]
    exact right Y1 (by rw [List.nil_append, sortE_of_sorted sy1])
 by_cases h2 : 0 < X2.length
 · have c1 : ((A.length + X1.length : Nat) : Int) < ((A.length + X1.length + X2.length : Nat) : Int) := by omega
   simp only [if_pos c1]
   refine Ev.step (fun k => by simp only [api_Entry_67.j6]; exact rfl) ?_
   by_cases h3 : 0 < Y1.length
   · have c2 : ((A.length + X1.length + X2.length : Nat) : Int) < ((A.length + X1.length + X2.length + Y1.length : Nat) : Int) := by omega
     simp only [decide_eq_true c2, if_true]
     have := rot_told (A ++ X1) X2 Y1 (Y2 ++ C) h2 h3 (by simp; omega)
     have e1 : (A ++ X1).length = A.length + X1.length := by simp
     have e4 : A ++ X1 ++ X2 ++ Y1 ++ (Y2 ++ C) = A ++ (X1 ++ X2) ++ (Y1 ++ Y2) ++ C := by simp
     have e5 : A ++ X1 ++ Y1 ++ X2 ++ (Y2 ++ C) = A ++ (X1 ++ Y1) ++ (X2 ++ Y2) ++ C := by simp
     rw [e1, e4, e5] at this
     exact Ev.bind this left
   · have : Y1 = [] := List.eq_nil_of_length_eq_zero (by omega)
     subst this
     have c2 : ¬ ((A.length + X1.length + X2.length : Nat) : Int) < ((A.length + X1.length + X2.length + ([] : List E).length : Nat) : Int) := by simp
     simp only [decide_eq_false c2, Bool.false_eq_true, if_false]
     have e5 : A ++ (X1 ++ []) ++ (X2 ++ Y2) ++ C = A ++ (X1 ++ X2) ++ ([] ++ Y2) ++ C := by simp
     rw [e5] at left
     exact left
 · have : X2 = [] := List.eq_nil_of_length_eq_zero (by omega)
   subst this
   have c1 : ¬ ((A.length + X1.length : Nat) : Int) < ((A.length + X1.length + ([] : List E).length : Nat) : Int) := by simp
   simp only [if_neg c1]
   refine Ev.step (fun k => by simp only [api_Entry_67.j6]; exact rfl) ?_
   simp only [Bool.false_eq_true, if_false]
   have e5 : A ++ (X1 ++ Y1) ++ ([] ++ Y2) ++ C = A ++ (X1 ++ []) ++ (Y1 ++ Y2) ++ C := by simp
   rw [e5] at left
   exact left
end Go.Proofs.Ythcnpkkpjfigeaa.V
