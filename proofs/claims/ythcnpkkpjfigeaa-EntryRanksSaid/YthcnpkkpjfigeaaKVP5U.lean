-- a text of this work, without what this claim doesn't use (wip/shake.py)
import Derived.Test.YthcnpkkpjfigeaaKVP5T
set_option linter.unusedVariables false
set_option linter.unusedSimpArgs false
namespace Go.Proofs.Ythcnpkkpjfigeaa.V
open Go.RowKit Go.Proofs.YthcnpkkpjfigeaaW.PrintWords Go.Proofs.YthcnpkkpjfigeaaW.PrintLast Go.Proofs.YthcnpkkpjfigeaaW.PrintMore
theorem split_at (L : List E) (n : Nat) (h : n < L.length) : ∃ P y Q, L = P ++ y :: Q ∧ P.length = n :=
 ⟨L.take n, L[n], L.drop (n + 1), by rw [List.getElem_cons_drop, List.take_append_drop], by rw [List.length_take]; omega⟩
theorem sym_one (A C : List E) (x : E) (r : List E) : ∀ (n : Nat) (Y1 Ym Y2 : List E), Ym.length ≤ n → SortedE (Y1 ++ Ym ++ Y2) → (∀ y ∈ Y1, ltE y x = true) → (∀ y ∈ Y2, ltE y x = false) → (A ++ x :: (Y1 ++ Ym ++ Y2) ++ C).length < 1000000000 →
 r = A ++ sortE (x :: (Y1 ++ Ym ++ Y2)) ++ C →
 Ev (fun k => api_Entry_67.l0 k (A ++ x :: (Y1 ++ Ym ++ Y2) ++ C) ((A.length : Nat) : Int) ((A.length + 1 + Y1.length : Nat) : Int) ((A.length + 1 + Y1.length + Ym.length : Nat) : Int)) r := by
 intro n
 induction n with
 | zero =>
  intro Y1 Ym Y2 hn hs h1 h2 hlen hr
  have : Ym = [] := List.eq_nil_of_length_eq_zero (by omega)
  subst this
  refine Ev.step (fun k => by simp only [api_Entry_67.l0]; exact rfl) ?_
  have c : ¬ ((A.length + 1 + Y1.length : Nat) : Int) < ((A.length + 1 + Y1.length + ([] : List E).length : Nat) : Int) := by simp
  simp only [if_neg c]
  have hb := bub_right A x (Y2 ++ C) A.length (A.length + 1 + Y1.length) Y1 [] (by simp) (by simp) (by simp at hlen ⊢; omega)
  have e1 : A ++ [] ++ x :: Y1 ++ (Y2 ++ C) = A ++ x :: (Y1 ++ [] ++ Y2) ++ C := by simp
  rw [e1] at hb
  rw [List.append_nil] at hs
  obtain ⟨q1, q2, q3⟩ := sorted_append.1 hs
  have e2 : sortE (x :: (Y1 ++ [] ++ Y2)) = Y1 ++ x :: Y2 := sortE_eq (by
   refine sorted_append.2 ⟨q1, sorted_cons.2 ⟨fun y hy => by simp [leE, h2 y hy], q2⟩, fun a ha b hb => ?_⟩
   rcases List.mem_cons.1 hb with rfl | hb
   · exact leE_of_ltE (h1 a ha)
   · exact q3 a ha b hb) (by
   rw [List.append_nil]; exact List.perm_middle)
  rw [hr, e2]
  have e3 : A ++ [] ++ Y1 ++ x :: (Y2 ++ C) = A ++ (Y1 ++ x :: Y2) ++ C := by simp
  rw [e3] at hb
  exact hb
 | succ n ih =>
  intro Y1 Ym Y2 hn hs h1 h2 hlen hr
  by_cases h0 : Ym.length = 0
  · exact ih Y1 Ym Y2 (by omega) hs h1 h2 hlen hr
  have hlen' := hlen
  simp only [List.length_append, List.length_cons] at hlen'
  refine Ev.step (fun k => by simp only [api_Entry_67.l0]; exact rfl) ?_
  have c : ((A.length + 1 + Y1.length : Nat) : Int) < ((A.length + 1 + Y1.length + Ym.length : Nat) : Int) := by omega
  obtain ⟨h, hh⟩ : ∃ h, h = (A.length + 1 + Y1.length + (A.length + 1 + Y1.length + Ym.length)) / 2 := ⟨_, rfl⟩
  have b0 : A.length + 1 + Y1.length + (A.length + 1 + Y1.length + Ym.length) < 4611686018427387904 := by omega
  obtain ⟨P, y, Q, hY, hP⟩ := split_at Ym (h - (A.length + 1 + Y1.length)) (by omega)
  subst hY
  simp only [List.length_append, List.length_cons] at hlen' hn h0 hh
  have r1 : rd_T33 (A ++ x :: (Y1 ++ (P ++ y :: Q) ++ Y2) ++ C) ((h : Nat) : Int) = y := rd_at (A := A ++ x :: (Y1 ++ P)) (B := Q ++ Y2 ++ C) (by simp) (by simp; omega)
  have r2 : rd_T33 (A ++ x :: (Y1 ++ (P ++ y :: Q) ++ Y2) ++ C) ((A.length : Nat) : Int) = x := rd_at (A := A) (B := Y1 ++ (P ++ y :: Q) ++ Y2 ++ C) (by simp) rfl
  have c1 : (0 : Int) ≤ ((h : Nat) : Int) := by omega
  have c2 : ((h : Nat) : Int) < ((A ++ x :: (Y1 ++ (P ++ y :: Q) ++ Y2) ++ C).length : Int) := by simp; omega
  have c3 : (0 : Int) ≤ ((A.length : Nat) : Int) := by omega
  have c4 : ((A.length : Nat) : Int) < ((A ++ x :: (Y1 ++ (P ++ y :: Q) ++ Y2) ++ C).length : Int) := by simp; omega
  have hh' : (A.length + 1 + Y1.length + (A.length + 1 + Y1.length + (P ++ y :: Q).length)) / 2 = h := by simp only [List.length_append, List.length_cons]; omega
  have b1 : h ≤ 4611686018427387904 := by omega
  have hi1 : h + 1 = A.length + 1 + (Y1 ++ P ++ [y]).length := by simp; omega
  have hi2 : A.length + 1 + Y1.length + (P ++ y :: Q).length = A.length + 1 + (Y1 ++ P ++ [y]).length + Q.length := by simp; omega
  have hi3 : h = A.length + 1 + Y1.length + P.length := by omega
  have e5 : Y1 ++ (P ++ y :: Q) ++ Y2 = Y1 ++ P ++ [y] ++ Q ++ Y2 := by simp
  have e6 : Y1 ++ (P ++ y :: Q) ++ Y2 = Y1 ++ P ++ (y :: Q ++ Y2) := by simp
  have l1 : (A ++ x :: (Y1 ++ P ++ [y] ++ Q ++ Y2) ++ C).length < 1000000000 := by simp; omega
  have l2 : (A ++ x :: (Y1 ++ P ++ (y :: Q ++ Y2)) ++ C).length < 1000000000 := by simp; omega
  have lq : Q.length ≤ n := by omega
  have lp : P.length ≤ n := by omega
  simp only [if_pos c, whalf b0, hh', if_pos c1, if_pos c2, if_pos c3, if_pos c4, r1, r2]
  refine Ev.bind (sortcmp_ev y x) ?_
  obtain ⟨q1, q2, q3⟩ := sorted_append.1 hs
  obtain ⟨p1, p2, p3⟩ := sorted_append.1 q1
  obtain ⟨s1, s2, s3⟩ := sorted_append.1 p2
  cases hlt : ltE y x with
  | true =>
   simp only [if_pos ((cmpE_neg y x).2 hlt), wrap_nat b1]
   rw [hi1, hi2, e5]
   refine ih (Y1 ++ P ++ [y]) Q Y2 lq (by rw [← e5]; exact hs) (fun z hz => ?_) h2 l1 (by rw [hr, e5])
   rcases List.mem_append.1 hz with hz | hz
   · rcases List.mem_append.1 hz with hz | hz
     · exact h1 z hz
     · exact ltE_of_le_lt (s3 z hz y (by simp)) hlt
   · rw [List.mem_singleton.1 hz]; exact hlt
  | false =>
   have hn' : ¬ cmpE y x < 0 := fun h => by rw [(cmpE_neg y x).1 h] at hlt; cases hlt
   simp only [if_neg hn']
   rw [hi3, e6]
   refine ih Y1 P (y :: Q ++ Y2) lp (by rw [← e6]; exact hs) h1 (fun z hz => ?_) l2 (by rw [hr, e6])
   rcases List.mem_append.1 hz with hz | hz
   · have hyz : leE y z = true := by
      rcases List.mem_cons.1 hz with rfl | hz
      · exact leE_refl _
      · exact (sorted_cons.1 s2).1 z hz
     cases hzx : ltE z x with
     | false => rfl
     | true => rw [ltE_of_le_lt hyz hzx] at hlt; cases hlt
   · exact h2 z hz
theorem sym_two (A C : List E) (y : E) (r : List E) : ∀ (n : Nat) (X1 Xm X2 : List E), Xm.length ≤ n → SortedE (X1 ++ Xm ++ X2) → (∀ x ∈ X1, ltE y x = false) → (∀ x ∈ X2, ltE y x = true) → (A ++ (X1 ++ Xm ++ X2) ++ y :: C).length < 1000000000 →
 r = A ++ sortE (X1 ++ Xm ++ X2 ++ [y]) ++ C →
 Ev (fun k => api_Entry_67.l2 k (A ++ (X1 ++ Xm ++ X2) ++ y :: C) ((A.length + X1.length + Xm.length + X2.length : Nat) : Int) ((A.length + X1.length : Nat) : Int) ((A.length + X1.length + Xm.length : Nat) : Int)) r := by
 intro n
 induction n with
 | zero =>
  intro X1 Xm X2 hn hs h1 h2 hlen hr
  have : Xm = [] := List.eq_nil_of_length_eq_zero (by omega)
  subst this
  refine Ev.step (fun k => by simp only [api_Entry_67.l2]; exact rfl) ?_
  have c : ¬ ((A.length + X1.length : Nat) : Int) < ((A.length + X1.length + ([] : List E).length : Nat) : Int) := by simp
  simp only [if_neg c]
  have hb := bub_left (A ++ X1) y (A.length + X1.length) (by simp) X2 C (A.length + X1.length + ([] : List E).length + X2.length) (by simp) (by simp at hlen ⊢; omega)
  have e1 : A ++ X1 ++ X2 ++ y :: C = A ++ (X1 ++ [] ++ X2) ++ y :: C := by simp
  rw [e1] at hb
  rw [List.append_nil] at hs
  obtain ⟨q1, q2, q3⟩ := sorted_append.1 hs
  have e2 : sortE (X1 ++ [] ++ X2 ++ [y]) = X1 ++ y :: X2 := sortE_eq (by
   refine sorted_append.2 ⟨q1, sorted_cons.2 ⟨fun z hz => leE_of_ltE (h2 z hz), q2⟩, fun a ha b hb => ?_⟩
   rcases List.mem_cons.1 hb with rfl | hb
   · simp [leE, h1 a ha]
   · exact q3 a ha b hb) (by
   rw [List.append_nil, List.append_assoc]
   exact List.Perm.append_left X1 (List.perm_append_singleton y X2).symm)
  rw [hr, e2]
  have e3 : A ++ X1 ++ y :: (X2 ++ C) = A ++ (X1 ++ y :: X2) ++ C := by simp
  rw [e3] at hb
  exact hb
 | succ n ih =>
  intro X1 Xm X2 hn hs h1 h2 hlen hr
  by_cases h0 : Xm.length = 0
  · exact ih X1 Xm X2 (by omega) hs h1 h2 hlen hr
  have hlen' := hlen
  simp only [List.length_append, List.length_cons] at hlen'
  refine Ev.step (fun k => by simp only [api_Entry_67.l2]; exact rfl) ?_
  have c : ((A.length + X1.length : Nat) : Int) < ((A.length + X1.length + Xm.length : Nat) : Int) := by omega
  obtain ⟨h, hh⟩ : ∃ h, h = (A.length + X1.length + (A.length + X1.length + Xm.length)) / 2 := ⟨_, rfl⟩
  have b0 : A.length + X1.length + (A.length + X1.length + Xm.length) < 4611686018427387904 := by omega
  obtain ⟨P, x, Q, hX, hP⟩ := split_at Xm (h - (A.length + X1.length)) (by omega)
  subst hX
  simp only [List.length_append, List.length_cons] at hlen' hn h0 hh
  have r1 : rd_T33 (A ++ (X1 ++ (P ++ x :: Q) ++ X2) ++ y :: C) ((h : Nat) : Int) = x := rd_at (A := A ++ X1 ++ P) (B := Q ++ X2 ++ y :: C) (by simp) (by simp; omega)
  have r2 : rd_T33 (A ++ (X1 ++ (P ++ x :: Q) ++ X2) ++ y :: C) ((A.length + X1.length + (P ++ x :: Q).length + X2.length : Nat) : Int) = y := rd_at (A := A ++ (X1 ++ (P ++ x :: Q) ++ X2)) (B := C) rfl (by simp; omega)
  have c1 : (0 : Int) ≤ ((h : Nat) : Int) := by omega
  have c2 : ((h : Nat) : Int) < ((A ++ (X1 ++ (P ++ x :: Q) ++ X2) ++ y :: C).length : Int) := by simp; omega
  have c3 : (0 : Int) ≤ ((A.length + X1.length + (P ++ x :: Q).length + X2.length : Nat) : Int) := by omega
  have c4 : ((A.length + X1.length + (P ++ x :: Q).length + X2.length : Nat) : Int) < ((A ++ (X1 ++ (P ++ x :: Q) ++ X2) ++ y :: C).length : Int) := by simp; omega
  have hh' : (A.length + X1.length + (A.length + X1.length + (P ++ x :: Q).length)) / 2 = h := by simp only [List.length_append, List.length_cons]; omega
  have b1 : h ≤ 4611686018427387904 := by omega
  have hi1 : h + 1 = A.length + (X1 ++ P ++ [x]).length := by simp; omega
  have hi2 : A.length + X1.length + (P ++ x :: Q).length = A.length + (X1 ++ P ++ [x]).length + Q.length := by simp; omega
  have hi3 : h = A.length + X1.length + P.length := by omega
  have hm1 : A.length + X1.length + (P ++ x :: Q).length + X2.length = A.length + (X1 ++ P ++ [x]).length + Q.length + X2.length := by simp; omega
  have hm2 : A.length + X1.length + (P ++ x :: Q).length + X2.length = A.length + X1.length + P.length + (x :: Q ++ X2).length := by simp; omega
  have e5 : X1 ++ (P ++ x :: Q) ++ X2 = X1 ++ P ++ [x] ++ Q ++ X2 := by simp
  have e6 : X1 ++ (P ++ x :: Q) ++ X2 = X1 ++ P ++ (x :: Q ++ X2) := by simp
  have l1 : (A ++ (X1 ++ P ++ [x] ++ Q ++ X2) ++ y :: C).length < 1000000000 := by simp; omega
  have l2 : (A ++ (X1 ++ P ++ (x :: Q ++ X2)) ++ y :: C).length < 1000000000 := by simp; omega
  have lq : Q.length ≤ n := by omega
  have lp : P.length ≤ n := by omega
  simp only [if_pos c, whalf b0, hh', if_pos c1, if_pos c2, if_pos c3, if_pos c4, r1, r2]
  refine Ev.bind (sortcmp_ev y x) ?_
  obtain ⟨q1, q2, q3⟩ := sorted_append.1 hs
  obtain ⟨p1, p2, p3⟩ := sorted_append.1 q1
  obtain ⟨s1, s2, s3⟩ := sorted_append.1 p2
  cases hlt : ltE y x with
  | true =>
   simp only [if_pos ((cmpE_neg y x).2 hlt)]
   rw [hm2, hi3, e6]
   refine ih X1 P (x :: Q ++ X2) lp (by rw [← e6]; exact hs) h1 (fun z hz => ?_) l2 (by rw [hr, e6])
   rcases List.mem_append.1 hz with hz | hz
   · rcases List.mem_cons.1 hz with rfl | hz
     · exact hlt
     · exact ltE_of_lt_le hlt ((sorted_cons.1 s2).1 z hz)
   · exact h2 z hz
  | false =>
   have hn' : ¬ cmpE y x < 0 := fun h => by rw [(cmpE_neg y x).1 h] at hlt; cases hlt
   simp only [if_neg hn', wrap_nat b1]
   rw [hm1, hi1, hi2, e5]
   refine ih (X1 ++ P ++ [x]) Q X2 lq (by rw [← e5]; exact hs) (fun z hz => ?_) h2 l1 (by rw [hr, e5])
   have key : ∀ z, leE z x = true → ltE y z = false := fun z hz => by
    cases hc : ltE y z with
    | false => rfl
    | true => rw [ltE_of_lt_le hc hz] at hlt; cases hlt
   rcases List.mem_append.1 hz with hz | hz
   · rcases List.mem_append.1 hz with hz | hz
     · exact h1 z hz
     · exact key z (s3 z hz x (by simp))
   · rw [List.mem_singleton.1 hz]; exact hlt
end Go.Proofs.Ythcnpkkpjfigeaa.V
