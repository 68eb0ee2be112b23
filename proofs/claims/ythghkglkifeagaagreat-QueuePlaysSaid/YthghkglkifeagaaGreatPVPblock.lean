-- a text of this work, without what this claim doesn't use (wip/shake.py)
import Derived.Test.YthghkglkifeagaaGreatPVPslicesZ
import Derived.Test.YthghkglkifeagaaGreatPVP5T
import Derived.WalkSpells
import Derived.Lib.SliceRun
import Derived.Test.YthghkglkifeagaaGreatPVPvergerref5
import Derived.Test.YthghkglkifeagaaGreatPVPentry1
set_option maxRecDepth 100000
set_option maxHeartbeats 8000000
section
set_option linter.unusedVariables false
set_option linter.unusedSimpArgs false
namespace Go.Proofs.YthghkglkifeagaaGreat.V
open Go.RowKit Go.Proofs.YthghkglkifeagaaGreatW.PrintWords Go.Proofs.YthghkglkifeagaaGreatW.PrintLast Go.Proofs.YthghkglkifeagaaGreatW.PrintMore
theorem a9e (L : List E) (n : Nat) (h : n < L.length) : ∃ P y Q, L = P ++ y :: Q ∧ P.length = n :=
 ⟨L.take n, L[n], L.drop (n + 1), by rw [List.getElem_cons_drop, List.take_append_drop], by rw [List.length_take]; omega⟩
theorem b9m (A C : List E) (x : E) (r : List E) : ∀ (n : Nat) (Y1 Ym Y2 : List E), Ym.length ≤ n → a0d (Y1 ++ Ym ++ Y2) → (∀ y ∈ Y1, ltE y x = true) → (∀ y ∈ Y2, ltE y x = false) → (A ++ x :: (Y1 ++ Ym ++ Y2) ++ C).length < 1000000000 →
 r = A ++ a0b (x :: (Y1 ++ Ym ++ Y2)) ++ C →
 Ev (fun k => api_Entry_123.l0 k (A ++ x :: (Y1 ++ Ym ++ Y2) ++ C) ((A.length : Nat) : Int) ((A.length + 1 + Y1.length : Nat) : Int) ((A.length + 1 + Y1.length + Ym.length : Nat) : Int)) r := by
 intro n
 induction n with
 | zero =>
  intro Y1 Ym Y2 hn hs h1 h2 hlen hr
  have : Ym = [] := List.eq_nil_of_length_eq_zero (by omega)
  subst this
  refine Ev.step (fun k => by simp only [api_Entry_123.l0]; exact rfl) ?_
  have c : ¬ ((A.length + 1 + Y1.length : Nat) : Int) < ((A.length + 1 + Y1.length + ([] : List E).length : Nat) : Int) := by simp
  simp only [if_neg c]
  have hb := b5e A x (Y2 ++ C) A.length (A.length + 1 + Y1.length) Y1 [] (by simp) (by simp) (by simp at hlen ⊢; omega)
  have e1 : A ++ [] ++ x :: Y1 ++ (Y2 ++ C) = A ++ x :: (Y1 ++ [] ++ Y2) ++ C := by simp
  rw [e1] at hb
  rw [List.append_nil] at hs
  obtain ⟨q1, q2, q3⟩ := sorted_append.1 hs
  have e2 : a0b (x :: (Y1 ++ [] ++ Y2)) = Y1 ++ x :: Y2 := a2r (by
   refine sorted_append.2 ⟨q1, sorted_cons.2 ⟨fun y hy => by simp [leE, h2 y hy], q2⟩, fun a ha b hb => ?_⟩
   rcases List.mem_cons.1 hb with rfl | hb
   · exact a3e (h1 a ha)
   · exact q3 a ha b hb) (by
   rw [List.append_nil]; exact List.perm_middle)
  rw [hr, e2]
  have e3 : A ++ [] ++ Y1 ++ x :: (Y2 ++ C) = A ++ (Y1 ++ x :: Y2) ++ C := by simp
  rw [e3] at hb
  exact hb
 | succ n ih =>
  intro Y1 Ym Y2 hn hs h1 h2 hlen hr
  by_cases h0 : Ym.length = 0
  · exact ih Y1 Ym Y2 (by omega) hs h1 h2 hlen hr
  have hlen' := hlen
  simp only [List.length_append, List.length_cons] at hlen'
  refine Ev.step (fun k => by simp only [api_Entry_123.l0]; exact rfl) ?_
  have c : ((A.length + 1 + Y1.length : Nat) : Int) < ((A.length + 1 + Y1.length + Ym.length : Nat) : Int) := by omega
  obtain ⟨h, hh⟩ : ∃ h, h = (A.length + 1 + Y1.length + (A.length + 1 + Y1.length + Ym.length)) / 2 := ⟨_, rfl⟩
  have b0 : A.length + 1 + Y1.length + (A.length + 1 + Y1.length + Ym.length) < 4611686018427387904 := by omega
  obtain ⟨P, y, Q, hY, hP⟩ := a9e Ym (h - (A.length + 1 + Y1.length)) (by omega)
  subst hY
  simp only [List.length_append, List.length_cons] at hlen' hn h0 hh
  have r1 : a0a (A ++ x :: (Y1 ++ (P ++ y :: Q) ++ Y2) ++ C) ((h : Nat) : Int) = y := a1o (A := A ++ x :: (Y1 ++ P)) (B := Q ++ Y2 ++ C) (by simp) (by simp; omega)
  have r2 : a0a (A ++ x :: (Y1 ++ (P ++ y :: Q) ++ Y2) ++ C) ((A.length : Nat) : Int) = x := a1o (A := A) (B := Y1 ++ (P ++ y :: Q) ++ Y2 ++ C) (by simp) rfl
  have c1 : (0 : Int) ≤ ((h : Nat) : Int) := by omega
  have c2 : ((h : Nat) : Int) < ((A ++ x :: (Y1 ++ (P ++ y :: Q) ++ Y2) ++ C).length : Int) := by simp; omega
  have c3 : (0 : Int) ≤ ((A.length : Nat) : Int) := by omega
  have c4 : ((A.length : Nat) : Int) < ((A ++ x :: (Y1 ++ (P ++ y :: Q) ++ Y2) ++ C).length : Int) := by simp; omega
  have hh' : (A.length + 1 + Y1.length + (A.length + 1 + Y1.length + (P ++ y :: Q).length)) / 2 = h := by simp only [List.length_append, List.length_cons]; omega
  have b1 : h ≤ 4611686018427387904 := by omega
  have hi1 : h + 1 = A.length + 1 + (Y1 ++ P ++ [y]).length := by simp; omega
  have hi2 : A.length + 1 + Y1.length + (P ++ y :: Q).length = A.length + 1 + (Y1 ++ P ++ [y]).length + Q.length := by simp; omega
  have hi3 : h = A.length + 1 + Y1.length + P.length := by omega
  have e5 : Y1 ++ (P ++ y :: Q) ++ Y2 = Y1 ++ P ++ [y] ++ Q ++ Y2 := by simp
  have e6 : Y1 ++ (P ++ y :: Q) ++ Y2 = Y1 ++ P ++ (y :: Q ++ Y2) := by simp
  have l1 : (A ++ x :: (Y1 ++ P ++ [y] ++ Q ++ Y2) ++ C).length < 1000000000 := by simp; omega
  have l2 : (A ++ x :: (Y1 ++ P ++ (y :: Q ++ Y2)) ++ C).length < 1000000000 := by simp; omega
  have lq : Q.length ≤ n := by omega
  have lp : P.length ≤ n := by omega
  simp only [if_pos c, a4s b0, hh', if_pos c1, if_pos c2, if_pos c3, if_pos c4, r1, r2]
  refine Ev.bind (a6j y x) ?_
  obtain ⟨q1, q2, q3⟩ := sorted_append.1 hs
  obtain ⟨p1, p2, p3⟩ := sorted_append.1 q1
  obtain ⟨s1, s2, s3⟩ := sorted_append.1 p2
  cases hlt : ltE y x with
  | true =>
   simp only [if_pos ((a2h y x).2 hlt), a1u b1]
   rw [hi1, hi2, e5]
   refine ih (Y1 ++ P ++ [y]) Q Y2 lq (by rw [← e5]; exact hs) (fun z hz => ?_) h2 l1 (by rw [hr, e5])
   rcases List.mem_append.1 hz with hz | hz
   · rcases List.mem_append.1 hz with hz | hz
     · exact h1 z hz
     · exact b3e (s3 z hz y (by simp)) hlt
   · rw [List.mem_singleton.1 hz]; exact hlt
  | false =>
   have hn' : ¬ cmpE y x < 0 := fun h => by rw [(a2h y x).1 h] at hlt; cases hlt
   simp only [if_neg hn']
   rw [hi3, e6]
   refine ih Y1 P (y :: Q ++ Y2) lp (by rw [← e6]; exact hs) h1 (fun z hz => ?_) l2 (by rw [hr, e6])
   rcases List.mem_append.1 hz with hz | hz
   · have hyz : leE y z = true := by
      rcases List.mem_cons.1 hz with rfl | hz
      · exact a4d _
      · exact (sorted_cons.1 s2).1 z hz
     cases hzx : ltE z x with
     | false => rfl
     | true => rw [b3e hyz hzx] at hlt; cases hlt
   · exact h2 z hz
theorem c2i (A C : List E) (y : E) (r : List E) : ∀ (n : Nat) (X1 Xm X2 : List E), Xm.length ≤ n → a0d (X1 ++ Xm ++ X2) → (∀ x ∈ X1, ltE y x = false) → (∀ x ∈ X2, ltE y x = true) → (A ++ (X1 ++ Xm ++ X2) ++ y :: C).length < 1000000000 →
 r = A ++ a0b (X1 ++ Xm ++ X2 ++ [y]) ++ C →
 Ev (fun k => api_Entry_123.l2 k (A ++ (X1 ++ Xm ++ X2) ++ y :: C) ((A.length + X1.length + Xm.length + X2.length : Nat) : Int) ((A.length + X1.length : Nat) : Int) ((A.length + X1.length + Xm.length : Nat) : Int)) r := by
 intro n
 induction n with
 | zero =>
  intro X1 Xm X2 hn hs h1 h2 hlen hr
  have : Xm = [] := List.eq_nil_of_length_eq_zero (by omega)
  subst this
  refine Ev.step (fun k => by simp only [api_Entry_123.l2]; exact rfl) ?_
  have c : ¬ ((A.length + X1.length : Nat) : Int) < ((A.length + X1.length + ([] : List E).length : Nat) : Int) := by simp
  simp only [if_neg c]
  have hb := b9n (A ++ X1) y (A.length + X1.length) (by simp) X2 C (A.length + X1.length + ([] : List E).length + X2.length) (by simp) (by simp at hlen ⊢; omega)
  have e1 : A ++ X1 ++ X2 ++ y :: C = A ++ (X1 ++ [] ++ X2) ++ y :: C := by simp
  rw [e1] at hb
  rw [List.append_nil] at hs
  obtain ⟨q1, q2, q3⟩ := sorted_append.1 hs
  have e2 : a0b (X1 ++ [] ++ X2 ++ [y]) = X1 ++ y :: X2 := a2r (by
   refine sorted_append.2 ⟨q1, sorted_cons.2 ⟨fun z hz => a3e (h2 z hz), q2⟩, fun a ha b hb => ?_⟩
   rcases List.mem_cons.1 hb with rfl | hb
   · simp [leE, h1 a ha]
   · exact q3 a ha b hb) (by
   rw [List.append_nil, List.append_assoc]
   exact List.Perm.append_left X1 (List.perm_append_singleton y X2).symm)
  rw [hr, e2]
  have e3 : A ++ X1 ++ y :: (X2 ++ C) = A ++ (X1 ++ y :: X2) ++ C := by simp
  rw [e3] at hb
  exact hb
 | succ n ih =>
  intro X1 Xm X2 hn hs h1 h2 hlen hr
  by_cases h0 : Xm.length = 0
  · exact ih X1 Xm X2 (by omega) hs h1 h2 hlen hr
  have hlen' := hlen
  simp only [List.length_append, List.length_cons] at hlen'
  refine Ev.step (fun k => by simp only [api_Entry_123.l2]; exact rfl) ?_
  have c : ((A.length + X1.length : Nat) : Int) < ((A.length + X1.length + Xm.length : Nat) : Int) := by omega
  obtain ⟨h, hh⟩ : ∃ h, h = (A.length + X1.length + (A.length + X1.length + Xm.length)) / 2 := ⟨_, rfl⟩
  have b0 : A.length + X1.length + (A.length + X1.length + Xm.length) < 4611686018427387904 := by omega
  obtain ⟨P, x, Q, hX, hP⟩ := a9e Xm (h - (A.length + X1.length)) (by omega)
  subst hX
  simp only [List.length_append, List.length_cons] at hlen' hn h0 hh
  have r1 : a0a (A ++ (X1 ++ (P ++ x :: Q) ++ X2) ++ y :: C) ((h : Nat) : Int) = x := a1o (A := A ++ X1 ++ P) (B := Q ++ X2 ++ y :: C) (by simp) (by simp; omega)
  have r2 : a0a (A ++ (X1 ++ (P ++ x :: Q) ++ X2) ++ y :: C) ((A.length + X1.length + (P ++ x :: Q).length + X2.length : Nat) : Int) = y := a1o (A := A ++ (X1 ++ (P ++ x :: Q) ++ X2)) (B := C) rfl (by simp; omega)
  have c1 : (0 : Int) ≤ ((h : Nat) : Int) := by omega
  have c2 : ((h : Nat) : Int) < ((A ++ (X1 ++ (P ++ x :: Q) ++ X2) ++ y :: C).length : Int) := by simp; omega
  have c3 : (0 : Int) ≤ ((A.length + X1.length + (P ++ x :: Q).length + X2.length : Nat) : Int) := by omega
  have c4 : ((A.length + X1.length + (P ++ x :: Q).length + X2.length : Nat) : Int) < ((A ++ (X1 ++ (P ++ x :: Q) ++ X2) ++ y :: C).length : Int) := by simp; omega
  have hh' : (A.length + X1.length + (A.length + X1.length + (P ++ x :: Q).length)) / 2 = h := by simp only [List.length_append, List.length_cons]; omega
  have b1 : h ≤ 4611686018427387904 := by omega
  have hi1 : h + 1 = A.length + (X1 ++ P ++ [x]).length := by simp; omega
  have hi2 : A.length + X1.length + (P ++ x :: Q).length = A.length + (X1 ++ P ++ [x]).length + Q.length := by simp; omega
  have hi3 : h = A.length + X1.length + P.length := by omega
  have hm1 : A.length + X1.length + (P ++ x :: Q).length + X2.length = A.length + (X1 ++ P ++ [x]).length + Q.length + X2.length := by simp; omega
  have hm2 : A.length + X1.length + (P ++ x :: Q).length + X2.length = A.length + X1.length + P.length + (x :: Q ++ X2).length := by simp; omega
  have e5 : X1 ++ (P ++ x :: Q) ++ X2 = X1 ++ P ++ [x] ++ Q ++ X2 := by simp
  have e6 : X1 ++ (P ++ x :: Q) ++ X2 = X1 ++ P ++ (x :: Q ++ X2) := by simp
  have l1 : (A ++ (X1 ++ P ++ [x] ++ Q ++ X2) ++ y :: C).length < 1000000000 := by simp; omega
  have l2 : (A ++ (X1 ++ P ++ (x :: Q ++ X2)) ++ y :: C).length < 1000000000 := by simp; omega
  have lq : Q.length ≤ n := by omega
  have lp : P.length ≤ n := by omega
  simp only [if_pos c, a4s b0, hh', if_pos c1, if_pos c2, if_pos c3, if_pos c4, r1, r2]
  refine Ev.bind (a6j y x) ?_
  obtain ⟨q1, q2, q3⟩ := sorted_append.1 hs
  obtain ⟨p1, p2, p3⟩ := sorted_append.1 q1
  obtain ⟨s1, s2, s3⟩ := sorted_append.1 p2
  cases hlt : ltE y x with
  | true =>
   simp only [if_pos ((a2h y x).2 hlt)]
   rw [hm2, hi3, e6]
   refine ih X1 P (x :: Q ++ X2) lp (by rw [← e6]; exact hs) h1 (fun z hz => ?_) l2 (by rw [hr, e6])
   rcases List.mem_append.1 hz with hz | hz
   · rcases List.mem_cons.1 hz with rfl | hz
     · exact hlt
     · exact a7j hlt ((sorted_cons.1 s2).1 z hz)
   · exact h2 z hz
  | false =>
   have hn' : ¬ cmpE y x < 0 := fun h => by rw [(a2h y x).1 h] at hlt; cases hlt
   simp only [if_neg hn', a1u b1]
   rw [hm1, hi1, hi2, e5]
   refine ih (X1 ++ P ++ [x]) Q X2 lq (by rw [← e5]; exact hs) (fun z hz => ?_) h2 l1 (by rw [hr, e5])
   have key : ∀ z, leE z x = true → ltE y z = false := fun z hz => by
    cases hc : ltE y z with
    | false => rfl
    | true => rw [a7j hc hz] at hlt; cases hlt
   rcases List.mem_append.1 hz with hz | hz
   · rcases List.mem_append.1 hz with hz | hz
     · exact h1 z hz
     · exact key z (s3 z hz x (by simp))
   · rw [List.mem_singleton.1 hz]; exact hlt
theorem b8s (l : List E) (a m b mid : Nat) (hl : l.length < 1000000000) (ham : a < m) (hmb : m < b) (hbl : b ≤ l.length) (hmid : mid = (a + b) / 2) (r : List E) (lo hi : Nat) (hlh : (mid < m ∧ lo = mid + m - b ∧ hi = mid) ∨ (m ≤ mid ∧ lo = a ∧ hi = m))
 (final : ∀ s : Nat, lo ≤ s → s ≤ hi → (s = lo ∨ ltE (a0a l ((mid + m - s : Nat) : Int)) (a0a l ((s - 1 : Nat) : Int)) = false) → (s = hi ∨ ltE (a0a l ((mid + m - 1 - s : Nat) : Int)) (a0a l ((s : Nat) : Int)) = true) →
  Ev (fun k => if ((s : Nat) : Int) < ((m : Nat) : Int) then (api_Entry_123.j6 k l (a : Int) (m : Int) (b : Int) (mid : Int) (s : Int) (wrap64 (((mid + m : Nat) : Int) - ((s : Nat) : Int))) (decide (((m : Nat) : Int) < (wrap64 (((mid + m : Nat) : Int) - ((s : Nat) : Int)))))) else (api_Entry_123.j6 k l (a : Int) (m : Int) (b : Int) (mid : Int) (s : Int) (wrap64 (((mid + m : Nat) : Int) - ((s : Nat) : Int))) false)) r) :
 ∀ (d s t : Nat), t - s ≤ d → lo ≤ s → s ≤ t → t ≤ hi → (s = lo ∨ ltE (a0a l ((mid + m - s : Nat) : Int)) (a0a l ((s - 1 : Nat) : Int)) = false) → (t = hi ∨ ltE (a0a l ((mid + m - 1 - t : Nat) : Int)) (a0a l ((t : Nat) : Int)) = true) →
 Ev (fun k => api_Entry_123.l4 k l (a : Int) (m : Int) (b : Int) (mid : Int) ((mid + m : Nat) : Int) (s : Int) (t : Int) ((mid + m - 1 : Nat) : Int)) r := by
 intro d
 induction d with
 | zero =>
  intro s t hd h1 h2 h3 g1 g2
  have : s = t := by omega
  subst this
  refine Ev.step (fun k => by simp only [api_Entry_123.l4]; exact rfl) ?_
  have c : ¬ ((s : Nat) : Int) < ((s : Nat) : Int) := by omega
  simp only [if_neg c]
  exact final s h1 h3 g1 g2
 | succ d ih =>
  intro s t hd h1 h2 h3 g1 g2
  by_cases hst : s = t
  · exact ih s t (by omega) h1 h2 h3 g1 g2
  refine Ev.step (fun k => by simp only [api_Entry_123.l4]; exact rfl) ?_
  have c : ((s : Nat) : Int) < ((t : Nat) : Int) := by omega
  obtain ⟨h, hh⟩ : ∃ h, h = (s + t) / 2 := ⟨_, rfl⟩
  have b0 : s + t < 4611686018427387904 := by omega
  have b1 : h ≤ mid + m - 1 := by omega
  have b2 : mid + m - 1 < 4611686018427387904 := by omega
  have b3 : h ≤ 4611686018427387904 := by omega
  have c1 : (0 : Int) ≤ ((mid + m - 1 - h : Nat) : Int) := by omega
  have c2 : ((mid + m - 1 - h : Nat) : Int) < (l.length : Int) := by omega
  have c3 : (0 : Int) ≤ ((h : Nat) : Int) := by omega
  have c4 : ((h : Nat) : Int) < (l.length : Int) := by omega
  have k1 : h - s ≤ d := by omega
  have k2 : s ≤ h := by omega
  have k3 : h ≤ hi := by omega
  have k4 : t - (h + 1) ≤ d := by omega
  have k5 : lo ≤ h + 1 := by omega
  have k6 : h + 1 ≤ t := by omega
  have k7 : mid + m - (h + 1) = mid + m - 1 - h := by omega
  have k8 : h + 1 - 1 = h := by omega
  simp only [if_pos c, a4s b0, ← hh, wsub b1 b2, if_pos c1, if_pos c2, if_pos c3, if_pos c4]
  refine Ev.bind (a6j (a0a l ((mid + m - 1 - h : Nat) : Int)) (a0a l ((h : Nat) : Int))) ?_
  cases hlt : ltE (a0a l ((mid + m - 1 - h : Nat) : Int)) (a0a l ((h : Nat) : Int)) with
  | true =>
   simp only [if_pos ((a2h _ _).2 hlt)]
   exact ih s h k1 h1 k2 k3 g1 (.inr hlt)
  | false =>
   have hn' : ¬ cmpE (a0a l ((mid + m - 1 - h : Nat) : Int)) (a0a l ((h : Nat) : Int)) < 0 := fun h => by rw [(a2h _ _).1 h] at hlt; cases hlt
   simp only [if_neg hn', a1u b3]
   exact ih (h + 1) t k4 k5 k6 h3 (.inr (by rw [k7, k8]; exact hlt)) g2
theorem c3d (A X1 X2 Y1 Y2 C : List E) (n : Nat) (hn : X1.length + X2.length + Y1.length + Y2.length = n) (hmid : A.length + X1.length + Y1.length = (A.length + (A.length + n)) / 2) (hlen : A.length + n + C.length < 1000000000)
 (hX : a0d (X1 ++ X2)) (hY : a0d (Y1 ++ Y2)) (h12 : ∀ x ∈ X1, ∀ y ∈ Y2, leE x y = true) (h21 : ∀ y ∈ Y1, ∀ x ∈ X2, leE y x = true) (hx0 : 0 < X1.length + X2.length) (hy0 : 0 < Y1.length + Y2.length) (hn4 : 2 < n)
 (ih : ∀ (n' : Nat), n' < n → ∀ A X Y C : List E, X.length + Y.length = n' → 0 < X.length → 0 < Y.length → a0d X → a0d Y → (A ++ X ++ Y ++ C).length < 1000000000 →
  Ev (fun k => api_Entry_123.f k (A ++ X ++ Y ++ C) ((A.length : Nat) : Int) ((A.length + X.length : Nat) : Int) ((A.length + X.length + Y.length : Nat) : Int)) (A ++ a0b (X ++ Y) ++ C)) :
 Ev (fun k => if ((A.length + X1.length : Nat) : Int) < ((A.length + X1.length + X2.length : Nat) : Int) then (api_Entry_123.j6 k (A ++ (X1 ++ X2) ++ (Y1 ++ Y2) ++ C) ((A.length : Nat) : Int) ((A.length + X1.length + X2.length : Nat) : Int) ((A.length + n : Nat) : Int) ((A.length + X1.length + Y1.length : Nat) : Int) ((A.length + X1.length : Nat) : Int)
  ((A.length + X1.length + X2.length + Y1.length : Nat) : Int) (decide (((A.length + X1.length + X2.length : Nat) : Int) < ((A.length + X1.length + X2.length + Y1.length : Nat) : Int)))) else (api_Entry_123.j6 k (A ++ (X1 ++ X2) ++ (Y1 ++ Y2) ++ C) ((A.length : Nat) : Int) ((A.length + X1.length + X2.length : Nat) : Int) ((A.length + n : Nat) : Int) ((A.length + X1.length + Y1.length : Nat) : Int) ((A.length + X1.length : Nat) : Int)
  ((A.length + X1.length + X2.length + Y1.length : Nat) : Int) false)) (A ++ a0b (X1 ++ X2 ++ (Y1 ++ Y2)) ++ C) := by
 obtain ⟨sx1, sx2, sx⟩ := sorted_append.1 hX
 obtain ⟨sy1, sy2, sy⟩ := sorted_append.1 hY
 have hfin : a0b (X1 ++ X2 ++ (Y1 ++ Y2)) = a0b (X1 ++ Y1) ++ a0b (X2 ++ Y2) := a2r (by
  refine sorted_append.2 ⟨a0y _, a0y _, fun u hu v hv => ?_⟩
  rcases List.mem_append.1 (sortE_mem.1 hu) with hu | hu <;> rcases List.mem_append.1 (sortE_mem.1 hv) with hv | hv
  · exact sx u hu v hv
  · exact h12 u hu v hv
  · exact h21 u hu v hv
  · exact sy u hu v hv) (by
  refine ((a0n (X1 ++ Y1)).append (a0n (X2 ++ Y2))).trans ?_
  rw [List.append_assoc, List.append_assoc]
  refine List.Perm.append_left X1 ?_
  rw [← List.append_assoc, ← List.append_assoc]
  exact List.Perm.append_right Y2 List.perm_append_comm)
 rw [hfin]
 have right : ∀ L : List E, L = a0b (X1 ++ Y1) → Ev (fun k => if ((A.length + X1.length + Y1.length : Nat) : Int) < ((A.length + X1.length + X2.length + Y1.length : Nat) : Int) then (if ((A.length + X1.length + X2.length + Y1.length : Nat) : Int) < ((A.length + n : Nat) : Int) then ((api_Entry_123.f k (A ++ L ++ (X2 ++ Y2) ++ C) ((A.length + X1.length + Y1.length : Nat) : Int) ((A.length + X1.length + X2.length + Y1.length : Nat) : Int) ((A.length + n : Nat) : Int)).bind fun t120 => (some t120)) else (some (A ++ L ++ (X2 ++ Y2) ++ C))) else (some (A ++ L ++ (X2 ++ Y2) ++ C)))
  (A ++ (a0b (X1 ++ Y1) ++ a0b (X2 ++ Y2)) ++ C) := by
  intro L hL
  have hLl : L.length = X1.length + Y1.length := by rw [hL, a0i]; simp
  by_cases h2 : 0 < X2.length
  · have c1 : ((A.length + X1.length + Y1.length : Nat) : Int) < ((A.length + X1.length + X2.length + Y1.length : Nat) : Int) := by omega
    simp only [if_pos c1]
    by_cases h3 : 0 < Y2.length
    · have c2 : ((A.length + X1.length + X2.length + Y1.length : Nat) : Int) < ((A.length + n : Nat) : Int) := by omega
      simp only [if_pos c2]
      refine Ev.bind (a := A ++ (a0b (X1 ++ Y1) ++ a0b (X2 ++ Y2)) ++ C) ?_ (Ev.now _)
      have := ih (X2.length + Y2.length) (by omega) (A ++ L) X2 Y2 C rfl h2 h3 sx2 sy2 (by simp [hLl]; omega)
      have e1 : (A ++ L).length = A.length + X1.length + Y1.length := by simp [hLl]; omega
      have e2 : (A ++ L).length + X2.length = A.length + X1.length + X2.length + Y1.length := by simp [hLl]; omega
      have e3 : (A ++ L).length + X2.length + Y2.length = A.length + n := by simp [hLl]; omega
      rw [e3, e2, e1] at this
      have e4 : A ++ L ++ X2 ++ Y2 ++ C = A ++ L ++ (X2 ++ Y2) ++ C := by simp
      have e5 : A ++ L ++ a0b (X2 ++ Y2) ++ C = A ++ (a0b (X1 ++ Y1) ++ a0b (X2 ++ Y2)) ++ C := by rw [hL]; simp
      rw [e4, e5] at this
      exact this
    · have : Y2 = [] := List.eq_nil_of_length_eq_zero (by omega)
      subst this
      have c2 : ¬ ((A.length + X1.length + X2.length + Y1.length : Nat) : Int) < ((A.length + n : Nat) : Int) := by simp at hn; omega
      simp only [if_neg c2]
      rw [List.append_nil, a2m sx2, hL]
      have e : A ++ a0b (X1 ++ Y1) ++ X2 ++ C = A ++ (a0b (X1 ++ Y1) ++ X2) ++ C := by simp
      rw [e]
      exact Ev.now _
  · have : X2 = [] := List.eq_nil_of_length_eq_zero (by omega)
    subst this
    have c1 : ¬ ((A.length + X1.length + Y1.length : Nat) : Int) < ((A.length + X1.length + ([] : List E).length + Y1.length : Nat) : Int) := by simp
    simp only [if_neg c1]
    rw [List.nil_append, a2m sy2, hL]
    have e : A ++ a0b (X1 ++ Y1) ++ Y2 ++ C = A ++ (a0b (X1 ++ Y1) ++ Y2) ++ C := by simp
    rw [e]
    exact Ev.now _
 have left : Ev (fun k => api_Entry_123.j7 k (A ++ (X1 ++ Y1) ++ (X2 ++ Y2) ++ C) ((A.length : Nat) : Int) ((A.length + n : Nat) : Int) ((A.length + X1.length + Y1.length : Nat) : Int) ((A.length + X1.length : Nat) : Int) ((A.length + X1.length + X2.length + Y1.length : Nat) : Int)) (A ++ (a0b (X1 ++ Y1) ++ a0b (X2 ++ Y2)) ++ C) := by
  refine Ev.step (fun k => by simp only [api_Entry_123.j7]; exact rfl) ?_
  by_cases h1 : 0 < X1.length
  · have c1 : ((A.length : Nat) : Int) < ((A.length + X1.length : Nat) : Int) := by omega
    simp only [if_pos c1]
    refine Ev.step (fun k => by simp only [api_Entry_123.j8]; exact rfl) ?_
    by_cases h2 : 0 < Y1.length
    · have c2 : ((A.length + X1.length : Nat) : Int) < ((A.length + X1.length + Y1.length : Nat) : Int) := by omega
      simp only [decide_eq_true c2, if_true]
      have := ih (X1.length + Y1.length) (by omega) A X1 Y1 (X2 ++ Y2 ++ C) rfl h1 h2 sx1 sy1 (by simp; omega)
      have e4 : A ++ X1 ++ Y1 ++ (X2 ++ Y2 ++ C) = A ++ (X1 ++ Y1) ++ (X2 ++ Y2) ++ C := by simp
      have e5 : A ++ a0b (X1 ++ Y1) ++ (X2 ++ Y2 ++ C) = A ++ a0b (X1 ++ Y1) ++ (X2 ++ Y2) ++ C := by simp
      rw [e4, e5] at this
      exact Ev.bind this (right _ rfl)
    · have : Y1 = [] := List.eq_nil_of_length_eq_zero (by omega)
      subst this
      have c2 : ¬ ((A.length + X1.length : Nat) : Int) < ((A.length + X1.length + ([] : List E).length : Nat) : Int) := by simp
      simp only [decide_eq_false c2, Bool.false_eq_true, if_false]
      have := right X1 (by rw [List.append_nil, a2m sx1])
      rw [List.append_nil] at this ⊢
      exact this
  · have : X1 = [] := List.eq_nil_of_length_eq_zero (by omega)
    subst this
    have c1 : ¬ ((A.length : Nat) : Int) < ((A.length + ([] : List E).length : Nat) : Int) := by simp
    simp only [if_neg c1]
    refine Ev.step (fun k => by simp only [api_Entry_123.j8]; exact rfl) ?_
    simp only [Bool.false_eq_true, if_false]
    exact right Y1 (by rw [List.nil_append, a2m sy1])
 by_cases h2 : 0 < X2.length
 · have c1 : ((A.length + X1.length : Nat) : Int) < ((A.length + X1.length + X2.length : Nat) : Int) := by omega
   simp only [if_pos c1]
   refine Ev.step (fun k => by simp only [api_Entry_123.j6]; exact rfl) ?_
   by_cases h3 : 0 < Y1.length
   · have c2 : ((A.length + X1.length + X2.length : Nat) : Int) < ((A.length + X1.length + X2.length + Y1.length : Nat) : Int) := by omega
     simp only [decide_eq_true c2, if_true]
     have := b9k (A ++ X1) X2 Y1 (Y2 ++ C) h2 h3 (by simp; omega)
     have e1 : (A ++ X1).length = A.length + X1.length := by simp
     have e4 : A ++ X1 ++ X2 ++ Y1 ++ (Y2 ++ C) = A ++ (X1 ++ X2) ++ (Y1 ++ Y2) ++ C := by simp
     have e5 : A ++ X1 ++ Y1 ++ X2 ++ (Y2 ++ C) = A ++ (X1 ++ Y1) ++ (X2 ++ Y2) ++ C := by simp
     rw [e1, e4, e5] at this
     exact Ev.bind this left
   · have : Y1 = [] := List.eq_nil_of_length_eq_zero (by omega)
     subst this
     have c2 : ¬ ((A.length + X1.length + X2.length : Nat) : Int) < ((A.length + X1.length + X2.length + ([] : List E).length : Nat) : Int) := by simp
     simp only [decide_eq_false c2, Bool.false_eq_true, if_false]
     have e5 : A ++ (X1 ++ []) ++ (X2 ++ Y2) ++ C = A ++ (X1 ++ X2) ++ ([] ++ Y2) ++ C := by simp
     rw [e5] at left
     exact left
 · have : X2 = [] := List.eq_nil_of_length_eq_zero (by omega)
   subst this
   have c1 : ¬ ((A.length + X1.length : Nat) : Int) < ((A.length + X1.length + ([] : List E).length : Nat) : Int) := by simp
   simp only [if_neg c1]
   refine Ev.step (fun k => by simp only [api_Entry_123.j6]; exact rfl) ?_
   simp only [Bool.false_eq_true, if_false]
   have e5 : A ++ (X1 ++ Y1) ++ ([] ++ Y2) ++ C = A ++ (X1 ++ []) ++ (Y1 ++ Y2) ++ C := by simp
   rw [e5] at left
   exact left
theorem a9d (l : List E) : l = [] ∨ ∃ P p, l = P ++ [p] := by
 induction l using a8o with
 | h0 => exact .inl rfl
 | h1 S s _ => exact .inr ⟨S, s, rfl⟩
theorem b0s : ∀ (n : Nat) (A X Y C : List E), X.length + Y.length = n → 0 < X.length → 0 < Y.length → a0d X → a0d Y → (A ++ X ++ Y ++ C).length < 1000000000 →
 Ev (fun k => api_Entry_123.f k (A ++ X ++ Y ++ C) ((A.length : Nat) : Int) ((A.length + X.length : Nat) : Int) ((A.length + X.length + Y.length : Nat) : Int)) (A ++ a0b (X ++ Y) ++ C) := by
 intro n
 induction n using Nat.strongRecOn with
 | _ n ih =>
  intro A X Y C hn hX0 hY0 hX hY hlen
  have hlen' := hlen
  simp only [List.length_append] at hlen'
  refine Ev.step (fun k => by simp only [api_Entry_123.f]; exact rfl) ?_
  have p1 : A.length ≤ A.length + X.length := by omega
  have p2 : A.length + X.length < 4611686018427387904 := by omega
  have p3 : A.length + X.length - A.length = X.length := by omega
  have p4 : A.length + X.length ≤ A.length + X.length + Y.length := by omega
  have p5 : A.length + X.length + Y.length < 4611686018427387904 := by omega
  have p6 : A.length + X.length + Y.length - (A.length + X.length) = Y.length := by omega
  by_cases h1 : X.length = 1
  · have c1 : ((X.length : Nat) : Int) = 1 := by omega
    obtain ⟨x, rfl⟩ := List.length_eq_one_iff.1 h1
    simp only [wsub p1 p2, p3, if_pos c1]
    have := b9m A C x (A ++ a0b ([x] ++ Y) ++ C) Y.length [] Y [] (Nat.le_refl _) (by simpa using hY) (by simp) (by simp) (by simp; simp at hlen'; omega) (by simp)
    simpa using this
  have c1 : ¬ ((X.length : Nat) : Int) = 1 := by omega
  by_cases h2 : Y.length = 1
  · have c2 : ((Y.length : Nat) : Int) = 1 := by omega
    obtain ⟨y, rfl⟩ := List.length_eq_one_iff.1 h2
    simp only [wsub p1 p2, p3, if_neg c1, wsub p4 p5, p6, if_pos c2]
    have := c2i A C y (A ++ a0b (X ++ [y]) ++ C) X.length [] X [] (Nat.le_refl _) (by simpa using hX) (by simp) (by simp) (by simp; simp at hlen'; omega) (by simp)
    simpa using this
  have c2 : ¬ ((Y.length : Nat) : Int) = 1 := by omega
  obtain ⟨mid, hmid⟩ : ∃ mid, mid = (A.length + (A.length + X.length + Y.length)) / 2 := ⟨_, rfl⟩
  have b0 : A.length + (A.length + X.length + Y.length) < 4611686018427387904 := by omega
  have b1 : mid + (A.length + X.length) < 4611686018427387904 := by omega
  have b2 : 0 < mid + (A.length + X.length) := by omega
  have b3 : A.length + X.length + Y.length ≤ mid + (A.length + X.length) ∨ ¬ (mid < A.length + X.length) := by omega
  have bl : A.length + X.length + Y.length ≤ (A ++ X ++ Y ++ C).length := by simp only [List.length_append]; omega
  have IH := za ih
  clear ih
  have search := fun lo hi hlh => b8s (A ++ X ++ Y ++ C) A.length (A.length + X.length) (A.length + X.length + Y.length) mid hlen (by omega) (by omega) bl hmid (A ++ a0b (X ++ Y) ++ C) lo hi hlh (by
   intro s hlo hhi g1 g2
   have hs1 : A.length ≤ s := by omega
   have hs2 : s ≤ A.length + X.length := by omega
   have hs3 : s ≤ mid := by omega
   have hs4 : mid - s ≤ Y.length := by omega
   obtain ⟨X1, X2, hXe, hX1⟩ : ∃ X1 X2, X = X1 ++ X2 ∧ X1.length = s - A.length := ⟨X.take (s - A.length), X.drop (s - A.length), (List.take_append_drop _ _).symm, by rw [List.length_take]; omega⟩
   obtain ⟨Y1, Y2, hYe, hY1⟩ : ∃ Y1 Y2, Y = Y1 ++ Y2 ∧ Y1.length = mid - s := ⟨Y.take (mid - s), Y.drop (mid - s), (List.take_append_drop _ _).symm, by rw [List.length_take]; omega⟩
   subst hXe
   subst hYe
   simp only [List.length_append] at *
   obtain ⟨sx1, sx2, sx⟩ := sorted_append.1 hX
   obtain ⟨sy1, sy2, sy⟩ := sorted_append.1 hY
   have h12 : ∀ x ∈ X1, ∀ y ∈ Y2, leE x y = true := by
    intro x hx y hy
    rcases a9d X1 with h0 | ⟨P, p, h0⟩
    · rw [h0] at hx; simp at hx
    · cases Y2 with
      | nil => simp at hy
      | cons q Q =>
       subst h0
       simp only [List.length_append, List.length_cons, List.length_nil] at *
       have hne : ¬ s = lo := by omega
       have g := g1.resolve_left hne
       have r1 : a0a (A ++ (P ++ [p] ++ X2) ++ (Y1 ++ q :: Q) ++ C) ((mid + (A.length + (P.length + (0 + 1) + X2.length)) - s : Nat) : Int) = q := a1o (A := A ++ (P ++ [p] ++ X2) ++ Y1) (B := Q ++ C) (by simp) (by simp; omega)
       have r2 : a0a (A ++ (P ++ [p] ++ X2) ++ (Y1 ++ q :: Q) ++ C) ((s - 1 : Nat) : Int) = p := a1o (A := A ++ P) (B := X2 ++ (Y1 ++ q :: Q) ++ C) (by simp) (by simp; omega)
       rw [r1, r2] at g
       have hpq : leE p q = true := by simp [leE, g]
       have hxp : leE x p = true := by
        rcases List.mem_append.1 hx with hx | hx
        · exact (sorted_append.1 sx1).2.2 x hx p (by simp)
        · rw [List.mem_singleton.1 hx]; exact a4d _
       have hqy : leE q y = true := by
        rcases List.mem_cons.1 hy with rfl | hy
        · exact a4d _
        · exact (sorted_cons.1 sy2).1 y hy
       exact a2s _ _ _ hxp (a2s _ _ _ hpq hqy)
   have h21 : ∀ y ∈ Y1, ∀ x ∈ X2, leE y x = true := by
    intro y hy x hx
    rcases a9d Y1 with h0 | ⟨Q, q, h0⟩
    · rw [h0] at hy; simp at hy
    · cases X2 with
      | nil => simp at hx
      | cons p P =>
       subst h0
       simp only [List.length_append, List.length_cons, List.length_nil] at *
       have hne : ¬ s = hi := by omega
       have g := g2.resolve_left hne
       have r1 : a0a (A ++ (X1 ++ p :: P) ++ (Q ++ [q] ++ Y2) ++ C) ((mid + (A.length + (X1.length + (P.length + 1))) - 1 - s : Nat) : Int) = q := a1o (A := A ++ (X1 ++ p :: P) ++ Q) (B := Y2 ++ C) (by simp) (by simp; omega)
       have r2 : a0a (A ++ (X1 ++ p :: P) ++ (Q ++ [q] ++ Y2) ++ C) ((s : Nat) : Int) = p := a1o (A := A ++ X1) (B := P ++ (Q ++ [q] ++ Y2) ++ C) (by simp) (by simp; omega)
       rw [r1, r2] at g
       have hqp : leE q p = true := a3e g
       have hyq : leE y q = true := by
        rcases List.mem_append.1 hy with hy | hy
        · exact (sorted_append.1 sy1).2.2 y hy q (by simp)
        · rw [List.mem_singleton.1 hy]; exact a4d _
       have hpx : leE p x = true := by
        rcases List.mem_cons.1 hx with rfl | hx
        · exact a4d _
        · exact (sorted_cons.1 sx2).1 x hx
       exact a2s _ _ _ hyq (a2s _ _ _ hqp hpx)
   have fin := c3d A X1 X2 Y1 Y2 C n (by omega) (by omega) (by omega) hX hY h12 h21 (by omega) (by omega) (by omega) (fun n' hn' A X Y C h1 h2 h3 h4 h5 h6 => IH.out n' hn' A X Y C h1 h2 h3 h4 h5 (by simpa only [List.length_append] using h6))
   have e1 : A.length + X1.length = s := by omega
   have e2 : A.length + X1.length + X2.length = A.length + (X1.length + X2.length) := by omega
   have e3 : A.length + n = A.length + (X1.length + X2.length) + (Y1.length + Y2.length) := by omega
   have e4 : A.length + X1.length + Y1.length = mid := by omega
   have e5 : A.length + X1.length + X2.length + Y1.length = mid + (A.length + (X1.length + X2.length)) - s := by omega
   have e6 : s ≤ mid + (A.length + (X1.length + X2.length)) := by omega
   have e7 : mid + (A.length + (X1.length + X2.length)) < 4611686018427387904 := by omega
   rw [e5, e4, e3, e2, e1] at fin
   simp only [wsub e6 e7]
   exact fin)
  have n1 : mid + (A.length + X.length) - 1 = mid + (A.length + X.length) - 1 := rfl
  by_cases h3 : mid < A.length + X.length
  · have c3 : ((A.length + X.length : Nat) : Int) > ((mid : Nat) : Int) := by omega
    have b4 : A.length + X.length + Y.length ≤ mid + (A.length + X.length) := by omega
    have k1 : mid + (A.length + X.length) - (A.length + X.length + Y.length) ≤ mid := by omega
    simp only [wsub p1 p2, p3, if_neg c1, wsub p4 p5, p6, if_neg c2, a4s b0, ← hmid, if_pos c3, wadd b1, wsub b4 b1]
    refine Ev.step (fun k => by simp only [api_Entry_123.j4]; exact rfl) ?_
    simp only [a2w b2 b1]
    exact search _ _ (.inl ⟨h3, rfl, rfl⟩) (mid + 1) (mid + (A.length + X.length) - (A.length + X.length + Y.length)) mid (by omega) (Nat.le_refl _) k1 (Nat.le_refl _) (.inl rfl) (.inl rfl)
  · have c3 : ¬ ((A.length + X.length : Nat) : Int) > ((mid : Nat) : Int) := by omega
    simp only [wsub p1 p2, p3, if_neg c1, wsub p4 p5, p6, if_neg c2, a4s b0, ← hmid, if_neg c3, wadd b1]
    refine Ev.step (fun k => by simp only [api_Entry_123.j4]; exact rfl) ?_
    simp only [a2w b2 b1]
    exact search _ _ (.inr ⟨by omega, rfl, rfl⟩) (A.length + X.length + 1) A.length (A.length + X.length) (by omega) (Nat.le_refl _) p1 (Nat.le_refl _) (.inl rfl) (.inl rfl)
def a1v (bs : Nat) (l : List E) : Prop := ∀ q, a0d ((l.drop (q * bs)).take bs)
theorem b3s (bs : Nat) : a1v bs [] := fun q => by simp; exact a6a
theorem a4t {bs : Nat} {l : List E} (h : a0d l) (hl : l.length ≤ bs) : a1v bs l := fun q => by
 cases q with
 | zero => rw [Nat.zero_mul, List.drop_zero]; exact c2l h _
 | succ q =>
  have : l.length ≤ (q + 1) * bs := by rw [Nat.succ_mul]; omega
  rw [List.drop_eq_nil_of_le this]; simp; exact a6a
theorem a4x {bs c : Nat} {P R : List E} (hP : a1v bs P) (hR : a1v bs R) (hc : P.length = c * bs) : a1v bs (P ++ R) := fun q => by
 by_cases hq : q < c
 · have h1 : q * bs + bs ≤ P.length := by rw [hc, ← Nat.succ_mul]; exact Nat.mul_le_mul_right _ hq
   rw [List.drop_append_of_le_length (by omega), List.take_append_of_le_length (by rw [List.length_drop]; omega)]
   exact hP q
 · obtain ⟨d, rfl⟩ : ∃ d, q = c + d := ⟨q - c, by omega⟩
   rw [Nat.add_mul, ← hc, ← List.drop_drop, List.drop_left]
   exact hR d
theorem b5m {bs c : Nat} {l : List E} (h : a1v bs l) : a1v bs (l.drop (c * bs)) := fun q => by
 rw [List.drop_drop, ← Nat.add_mul]; exact h (c + q)
theorem b8e (L0 : List E) (cont : ∀ L : List E, a1v 20 L → L.Perm L0 → Ev (fun k => api_Entry_112.l1 k L ((L0.length : Nat) : Int) 20) (a0b L0)) (hl : L0.length < 1000000000) :
 ∀ (d c : Nat) (P R : List E), R.length ≤ d → P.length = c * 20 → a1v 20 P → (P ++ R).Perm L0 → Ev (fun k => api_Entry_112.l0 k (P ++ R) ((L0.length : Nat) : Int) 20 ((P.length : Nat) : Int) ((P.length + 20 : Nat) : Int)) (a0b L0) := by
 intro d
 induction d with
 | zero =>
  intro c P R hd hc hP hp
  have : R = [] := List.eq_nil_of_length_eq_zero (by omega)
  subst this
  refine Ev.step (fun k => by simp only [api_Entry_112.l0]; exact rfl) ?_
  have hle := hp.length_eq
  simp only [List.length_append, List.length_nil] at hle
  have c1 : ¬ ((P.length + 20 : Nat) : Int) ≤ ((L0.length : Nat) : Int) := by omega
  simp only [if_neg c1]
  have := a8l P [] [] (by simp; omega)
  have e : P.length + ([] : List E).length = L0.length := by simp; omega
  rw [e] at this
  refine Ev.bind (a := P ++ []) ?_ (cont _ (by simpa using hP) hp)
  simpa [a4k] using this
 | succ d ih =>
  intro c P R hd hc hP hp
  have hle := hp.length_eq
  simp only [List.length_append] at hle
  refine Ev.step (fun k => by simp only [api_Entry_112.l0]; exact rfl) ?_
  by_cases h : P.length + 20 ≤ L0.length
  · have c1 : ((P.length + 20 : Nat) : Int) ≤ ((L0.length : Nat) : Int) := by omega
    simp only [if_pos c1]
    obtain ⟨R1, R2, rfl, hR1⟩ : ∃ R1 R2, R = R1 ++ R2 ∧ R1.length = 20 := ⟨R.take 20, R.drop 20, (List.take_append_drop _ _).symm, by rw [List.length_take]; omega⟩
    simp only [List.length_append] at hle hd
    have hi := a8l P R1 R2 (by simp; omega)
    rw [hR1] at hi
    have e1 : P ++ R1 ++ R2 = P ++ (R1 ++ R2) := by simp
    rw [e1] at hi
    refine Ev.bind hi ?_
    have hs : (a0b R1).length = 20 := by rw [a0i, hR1]
    have b1 : P.length + 20 + 20 < 4611686018427387904 := by omega
    have e3 : (P ++ a0b R1).length = P.length + 20 := by simp [hs]
    have hd2 : R2.length ≤ d := by omega
    have hc2 : (P ++ a0b R1).length = (c + 1) * 20 := by rw [e3]; omega
    have hw := wadd b1
    rw [show ((20 : Nat) : Int) = 20 from rfl] at hw
    simp only [hw]
    clear hw
    have := ih (c + 1) (P ++ a0b R1) R2 hd2 hc2 (a4x hP (a4t (a0y _) (Nat.le_of_eq hs)) hc) (by
     refine List.Perm.trans ?_ hp
     rw [List.append_assoc]
     exact List.Perm.append_left P (List.Perm.append_right R2 (a0n R1)))
    rw [e3] at this
    exact this
  · have c1 : ¬ ((P.length + 20 : Nat) : Int) ≤ ((L0.length : Nat) : Int) := by omega
    simp only [if_neg c1]
    have hi := a8l P R [] (by simp; omega)
    rw [hle, List.append_nil, List.append_nil] at hi
    refine Ev.bind hi (cont _ ?_ ?_)
    · exact a4x hP (a4t (a0y _) (by rw [a0i]; omega)) hc
    · exact List.Perm.trans (List.Perm.append_left P (a0n R)) hp
theorem b9t (L0 : List E) (hl : L0.length < 1000000000) (bs : Nat) (hbs : 0 < bs) (hbn : bs < L0.length) (cont : ∀ L : List E, a1v (bs * 2) L → L.Perm L0 → Ev (fun k => api_Entry_112.l1 k L ((L0.length : Nat) : Int) ((bs * 2 : Nat) : Int)) (a0b L0)) :
 ∀ (d c : Nat) (P R : List E), R.length ≤ d → P.length = c * (bs * 2) → a1v (bs * 2) P → a1v bs R → (P ++ R).Perm L0 → Ev (fun k => api_Entry_112.l2 k (P ++ R) ((L0.length : Nat) : Int) ((bs : Nat) : Int) ((P.length : Nat) : Int) ((P.length + bs * 2 : Nat) : Int)) (a0b L0) := by
 intro d
 induction d with
 | zero =>
  intro c P R hd hc hP hR hp
  have : R = [] := List.eq_nil_of_length_eq_zero (by omega)
  subst this
  have hle := hp.length_eq
  simp only [List.length_append, List.length_nil] at hle
  refine Ev.step (fun k => by simp only [api_Entry_112.l2]; exact rfl) ?_
  have c1 : ¬ ((P.length + bs * 2 : Nat) : Int) ≤ ((L0.length : Nat) : Int) := by omega
  have c2 : ¬ ((P.length + bs : Nat) : Int) < ((L0.length : Nat) : Int) := by omega
  have b1 : P.length + bs < 4611686018427387904 := by omega
  have w2 : wrap64 (((bs : Nat) : Int) * 2) = ((bs * 2 : Nat) : Int) := by rw [a1i (by omega) (by omega)]; omega
  simp only [if_neg c1, wadd b1, if_neg c2, w2]
  exact cont _ (by simpa using hP) hp
 | succ d ih =>
  intro c P R hd hc hP hR hp
  have hle := hp.length_eq
  simp only [List.length_append] at hle
  refine Ev.step (fun k => by simp only [api_Entry_112.l2]; exact rfl) ?_
  have b1 : P.length + bs < 4611686018427387904 := by omega
  have s0 : a0d (R.take bs) := by have := hR 0; rwa [Nat.zero_mul, List.drop_zero] at this
  have s1 : a0d ((R.drop bs).take bs) := by have := hR 1; rwa [Nat.one_mul] at this
  by_cases h : P.length + bs * 2 ≤ L0.length
  · have c1 : ((P.length + bs * 2 : Nat) : Int) ≤ ((L0.length : Nat) : Int) := by omega
    obtain ⟨R1, R2, R3, hRe, hR1, hR2, t0, t1, hR3⟩ : ∃ R1 R2 R3, R = R1 ++ (R2 ++ R3) ∧ R1.length = bs ∧ R2.length = bs ∧ a0d R1 ∧ a0d R2 ∧ a1v bs R3 :=
     ⟨R.take bs, (R.drop bs).take bs, (R.drop bs).drop bs, by rw [List.take_append_drop, List.take_append_drop], by rw [List.length_take]; omega, by rw [List.length_take, List.length_drop]; omega, s0, s1, by
      rw [List.drop_drop, show bs + bs = 2 * bs by omega]; exact b5m hR⟩
    subst hRe
    clear s0 s1
    simp only [List.length_append] at hle hd
    have hs : (a0b (R1 ++ R2)).length = bs * 2 := by rw [a0i, List.length_append]; omega
    have hm := b0s (bs + bs) P R1 R2 R3 (by omega) (by omega) (by omega) t0 t1 (by simp; omega)
    have e1 : P ++ R1 ++ R2 ++ R3 = P ++ (R1 ++ (R2 ++ R3)) := by simp
    have e2 : P.length + R1.length + R2.length = P.length + bs * 2 := by omega
    rw [e2, e1, hR1] at hm
    have e3 : (P ++ a0b (R1 ++ R2)).length = P.length + bs * 2 := by simp [hs]
    have hc2 : (P ++ a0b (R1 ++ R2)).length = (c + 1) * (bs * 2) := by rw [e3, Nat.add_mul, hc]; omega
    have hd2 : R3.length ≤ d := by omega
    have b2 : P.length + bs * 2 + bs * 2 < 4611686018427387904 := by omega
    have w0 : wrap64 (2 * ((bs : Nat) : Int)) = ((bs * 2 : Nat) : Int) := by rw [a1i (by omega) (by omega)]; omega
    simp only [if_pos c1, wadd b1, w0, wadd b2]
    refine Ev.bind hm ?_
    have := ih (c + 1) (P ++ a0b (R1 ++ R2)) R3 hd2 hc2 (a4x hP (a4t (a0y _) (Nat.le_of_eq hs)) hc) hR3 (by
     refine List.Perm.trans ?_ hp
     rw [List.append_assoc]
     refine List.Perm.append_left P ?_
     have := List.Perm.append_right R3 (a0n (R1 ++ R2))
     rwa [List.append_assoc R1 R2 R3] at this)
    rw [e3] at this
    exact this
  · have c1 : ¬ ((P.length + bs * 2 : Nat) : Int) ≤ ((L0.length : Nat) : Int) := by omega
    by_cases h2 : P.length + bs < L0.length
    · have c2 : ((P.length + bs : Nat) : Int) < ((L0.length : Nat) : Int) := by omega
      obtain ⟨R1, R2, hRe, hR1, t0, t1⟩ : ∃ R1 R2, R = R1 ++ R2 ∧ R1.length = bs ∧ a0d R1 ∧ a0d R2 :=
       ⟨R.take bs, R.drop bs, (List.take_append_drop _ _).symm, by rw [List.length_take]; omega, s0, by rwa [List.take_of_length_le (by rw [List.length_drop]; omega)] at s1⟩
      subst hRe
      clear s0 s1
      simp only [List.length_append] at hle hd
      have hm := b0s (bs + R2.length) P R1 R2 [] (by omega) (by omega) (by omega) t0 t1 (by simp; omega)
      have e1 : P ++ R1 ++ R2 ++ [] = P ++ (R1 ++ R2) := by simp
      have e2 : P.length + R1.length + R2.length = L0.length := by omega
      rw [e2, e1, hR1, List.append_nil] at hm
      have hs : (a0b (R1 ++ R2)).length ≤ bs * 2 := by rw [a0i, List.length_append]; omega
      have w2 : wrap64 (((bs : Nat) : Int) * 2) = ((bs * 2 : Nat) : Int) := by rw [a1i (by omega) (by omega)]; omega
      simp only [if_neg c1, wadd b1, if_pos c2, w2]
      exact Ev.bind hm (cont _ (a4x hP (a4t (a0y _) hs) hc) (List.Perm.trans (List.Perm.append_left P (a0n _)) hp))
    · have c2 : ¬ ((P.length + bs : Nat) : Int) < ((L0.length : Nat) : Int) := by omega
      have hRl : R.length ≤ bs := by omega
      have t0 : a0d R := by rwa [List.take_of_length_le hRl] at s0
      have w2 : wrap64 (((bs : Nat) : Int) * 2) = ((bs * 2 : Nat) : Int) := by rw [a1i (by omega) (by omega)]; omega
      have hRl2 : R.length ≤ bs * 2 := by omega
      simp only [if_neg c1, wadd b1, if_neg c2, w2]
      exact cont _ (a4x hP (a4t t0 hRl2) hc) hp
theorem b6x (L0 : List E) (hl : L0.length < 1000000000) : ∀ (d bs : Nat) (L : List E), L0.length - bs ≤ d → 0 < bs → bs ≤ 4000000000 → a1v bs L → L.Perm L0 → Ev (fun k => api_Entry_112.l1 k L ((L0.length : Nat) : Int) ((bs : Nat) : Int)) (a0b L0) := by
 intro d
 induction d using Nat.strongRecOn with
 | _ d ih =>
  intro bs L hd hbs hbb hL hp
  refine Ev.step (fun k => by simp only [api_Entry_112.l1]; exact rfl) ?_
  by_cases h : bs < L0.length
  · have c1 : ((bs : Nat) : Int) < ((L0.length : Nat) : Int) := by omega
    have hm := b9t L0 hl bs hbs h (fun L' h1 h2 => ih (L0.length - bs * 2) (by omega) (bs * 2) L' (Nat.le_refl _) (by omega) (by omega) h1 h2) L.length 0 [] L (Nat.le_refl _) (by simp) (b3s _) hL (by simpa using hp)
    have w0 : wrap64 (2 * ((bs : Nat) : Int)) = ((bs * 2 : Nat) : Int) := by rw [a1i (by omega) (by omega)]; omega
    simp only [if_pos c1, w0]
    simpa using hm
  · have c1 : ¬ ((bs : Nat) : Int) < ((L0.length : Nat) : Int) := by omega
    simp only [if_neg c1]
    have hs : a0d L := by
     have := hL 0
     rwa [Nat.zero_mul, List.drop_zero, List.take_of_length_le (by have := hp.length_eq; omega)] at this
    rw [a2r hs hp]
    exact Ev.now _
theorem c2u (L : List E) (hl : L.length < 1000000000) : Ev (fun k => api_Entry_84.f k L) (a0b L) := by
 unfold api_Entry_84.f api_Entry_112.f
 refine Ev.bind (a := a0b L) ?_ (Ev.now _)
 have := b8e L (fun L' h1 h2 => b6x L hl L.length 20 L' (by omega) (by omega) (by omega) h1 h2) hl L.length 0 [] L (Nat.le_refl _) rfl (b3s _) (by simp)
 simpa using this
def api_Entry_48.f (l0 : List E) : Option (List E) := some l0
theorem api_Entry_48.calls (P0_ : Nat → Prop) (A0 : Option Addr) (c0 : Nat) (l0 : List E) (r : List E) (w : World) (hs0 : Kd.V k33 33 w w.heap.size (fun k_ => P0_ k_) (.slice A0 l0.length c0) l0) (h : api_Entry_48.f l0 = some r) :
 Calls Tryz.prog 48 #[.slice A0 l0.length c0] w fun e w' => ∃ v0_ : Value, e = .returned (v0_) ∧ Kd.V k33 33 w' w.heap.size (fun k_ => (P0_ k_ ∨ w.heap.size ≤ k_)) v0_ r ∧ Below w.heap.size w w' := by
 obtain rfl := Option.some.inj h
 clear h
 have HS := za hs0
 have HL := za (Kd.V_at hs0).2.1
 have hm : l0.length ≤ 9223372036854775807 := by have := (Kd.F_now (Kd.V_at hs0).2.2).2.1; omega
 clear hs0
 have hl := HL.out
 go_enter Tryz.func48, Tryz.ntmps48
 go_wp2
 go_ret
 exact ⟨_, rfl, ⟨A0, l0.length, rfl, Nat.le_refl _, Kd.F_mono (Kd.V_at HS.out).2.2 (fun k hk => .inl hk)⟩, Below.refl _ _⟩
def api_Entry_83.f (l0 : List E) : Option (List E) := if l0.length < 8796093022208 then some l0 else none
theorem api_Entry_83.calls (A0 : Option Addr) (c0 : Nat) (l0 : List E) (r : List E) (w : World) (hr0 : Kd.C k33 w A0 l0.length l0) (hc0 : l0.length ≤ c0) (h : api_Entry_83.f l0 = some r) :
 Calls Tryz.prog 83 #[.slice A0 l0.length c0] w fun e w' => ∃ v0_ : Value, e = .returned (v0_) ∧ Kd.R k33 33 w' w.heap.size (fun _ => True) v0_ r ∧ Below w.heap.size w w' := by
 unfold api_Entry_83.f at h
 by_cases hlt : l0.length < 8796093022208
 · rw [if_pos hlt] at h
   obtain rfl := Option.some.inj h
   clear h
   have HL := za hlt
   clear hlt
   have HR0 := za hr0
   clear hr0
   have HB := za (Below.refl w.heap.size w)
   cases A0 with
   | none =>
    have hl0 : l0 = [] := by
     have h1 := HR0.out.2.2
     cases l0 with
     | nil => rfl
     | cons a l => obtain ⟨ad, h2, _⟩ := h1 (by simp); cases h2
    have H0 := za hl0
    clear hl0
    have he := Lib.run_eql_slice_nil (P := Tryz.prog) w 35 33 none l0.length c0 0 0 Tryz.underlying35
    go_enter Tryz.func83, Tryz.ntmps83
    go_wp2
    go_ret
    exact ⟨_, rfl, by rw [H0.out]; exact Kd.R_nil _ _ _ _ _, Below.refl _ _⟩
   | some ad =>
    have he := Lib.run_eql_slice_nil (P := Tryz.prog) w 35 33 (some ad) l0.length c0 0 0 Tryz.underlying35
    go_enter Tryz.func83, Tryz.ntmps83
    go_wp2_with (first
     | ((with_reducible refine gate_dst (N := 5) rfl ?_); refine Kd.R_lit k33 _ 33 ?hg (N := 5) ?hd (xs := ([] : List E)) (inner := []) (ok := fun _ => True) (okp := fun _ => True) ?hr ?hp (fun _ hk => hk) trivial (Below.refl _ _) (Nat.le_refl _) (by simp) ?_; (case hd => rfl); (case hg => rfl); (case hr => first | (go_simp; done) | (go_simp; rfl)); (case hp => exact (Reps.none _ _)); intro v1 w1 ho hb hg_ hnew_; clear hg_ hnew_; have n0_ := za ho; have n1_ := za (below_step HB.out hb); clear HB; have HO := n0_; have HB := n1_; clear n0_ n1_; clear hb ho)
     | ((with_reducible refine gate_builtin (b := .append) (xs := #[.tmp 5, .tmp 6]) rfl ?_); at_builtin; refine Kd.R_append_rows k33 (w0 := w) w.heap.size rfl (.tmp 5) (.tmp 6) 35 33 (.agg #[(.int .u64 0), (.int .i64 0)]) 16 rfl Tryz.underlying35 a0m rfl (by decide) (by omega) v1 [] l0 _ _ _ (fun _ => True) (fun _ => False) rfl rfl ?aO ?aR (fun _ _ h => h) (fun _ h => h.elim) ?aF ?aB ?aS ?aL ?_; (case aR => exact (Kd.C_below HR0.out HB.out)); (case aB => exact HB.out); (case aF => exact (fun _ _ => trivial)); (case aO => exact HO.out); (case aS => exact HB.out.size); (case aL => have := HL.out; simp only [List.length_nil]; omega); intro v2 w2 ho hb hg hat; rw [List.nil_append] at ho; have n0_ := za (hb); have n1_ := za (ho); clear HB; clear HO; have HB := n0_; have HO := n1_; clear n0_ n1_; clear ho hb hg hat))
    go_ret
    exact ⟨_, rfl, Kd.R_mono HO.out (fun _ hk => trivial), HB.out⟩
 · rw [if_neg hlt] at h
   cases h
end Go.Proofs.YthghkglkifeagaaGreat.V
end
section
set_option linter.unusedVariables false
set_option linter.unusedSimpArgs false
namespace Go.Proofs.YthghkglkifeagaaGreatW.PrintWords
open Go.RowKit
namespace Kd
theorem RC_Vbase {α : Type} {d : Kd α} {e base b2 : Nat} {ok : Nat → Prop} {w : World} {v : Value} {xs : List α} (h : d.RC e w base ok v xs) : V d e w b2 (fun k => base ≤ k) v xs := by
 obtain ⟨_, A, n, c, c', rfl, h1, h2, h3⟩ := h
 obtain ⟨hn, hc, hF⟩ := V_at (R_V (base' := base) (R_mono (R_bound h3) (fun k hk => hk.2.1) : d.R e w base (fun k => base ≤ k) _ _))
 subst hn
 exact ⟨A, c, rfl, h1, hF⟩
end Kd
end Go.Proofs.YthghkglkifeagaaGreatW.PrintWords
namespace Go.Proofs.YthghkglkifeagaaGreat.V
open Go.RowKit Go.Proofs.YthghkglkifeagaaGreatW.PrintWords Go.Proofs.YthghkglkifeagaaGreatW.PrintLast Go.Proofs.YthghkglkifeagaaGreatW.PrintMore
theorem a5e (A : Option Addr) (n c : Nat) (w : World) (hl : n ≤ c) (hm : n ≤ 9223372036854775807) :
 Calls Tryz.prog 48 #[.slice A n c] w fun e w' => e = .returned (.slice A n n) ∧ w = w' := by
 go_enter Tryz.func48, Tryz.ntmps48
 go_wp2
 go_ret
 exact ⟨rfl, rfl⟩
def entry_Sort.f (l0 : List E) : Option (List E) := if l0.length < 1000000000 then some (a0b l0) else none
theorem entry_Sort.calls (A0 : Option Addr) (c0 : Nat) (l0 : List E) (r : List E) (w : World) (hr0 : Kd.C k33 w A0 l0.length l0) (hc0 : l0.length ≤ c0) (h : entry_Sort.f l0 = some r) :
 Calls Tryz.prog 44 #[.slice A0 l0.length c0] w fun e w' => ∃ v0_ : Value, e = .returned (v0_) ∧ Kd.V k33 33 w' w.heap.size (fun k_ => (w.heap.size ≤ k_)) v0_ r ∧ Below w.heap.size w w' := by
 unfold entry_Sort.f at h
 by_cases hlt : l0.length < 1000000000
 · rw [if_pos hlt] at h
   obtain rfl := Option.some.inj h
   clear h
   obtain ⟨K, hK⟩ := c2u l0 hlt
   have HS := za (hK K (Nat.le_refl _))
   have HCl := za (show api_Entry_83.f l0 = some l0 from if_pos (by omega))
   have HM := za (show l0.length ≤ 9223372036854775807 by omega)
   clear hK hlt
   have HR0 := za hr0
   have HC0 := za hc0
   clear hr0 hc0
   go_enter Tryz.func44, Tryz.ntmps44
   go_wp2_with (first
    | ((with_reducible refine gate_callee (f := 83) rfl ?_); refine goesL_ (some 5) rfl rfl Tryz.func83 (by kernel_rfl) rfl #[.slice A0 l0.length c0] rfl (by (try simp only [List.map_toArray, List.map_cons, List.map_nil]); first | done | rfl) ?_; (with_reducible refine (api_Entry_83.calls _ _ l0 l0 _ HR0.out HC0.out HCl.out).mono ?_); rintro e w1 ⟨v1, rfl, ho, hb⟩; refine ⟨_, rfl, ?_⟩; obtain ⟨A1, c1, e1⟩ := Kd.R_slice ho; subst e1; have HO := za ho; have HB := za hb; have HL1 := za (Kd.R_reads' ho).2.1; clear ho hb)
    | ((with_reducible refine gate_callee (f := 48) rfl ?_); refine goesL_ (some 6) rfl rfl Tryz.func48 (by kernel_rfl) rfl #[.slice A1 l0.length c1] rfl (by (try simp only [List.map_toArray, List.map_cons, List.map_nil]); first | done | rfl) ?_; (with_reducible refine (a5e A1 l0.length c1 _ HL1.out HM.out).mono ?_); rintro e w2 ⟨rfl, rfl⟩; refine ⟨_, rfl, ?_⟩)
    | ((with_reducible refine gate_callee (f := 84) rfl ?_); refine goesL_ (some 8) rfl rfl Tryz.func84 (by kernel_rfl) rfl #[.slice A1 l0.length l0.length, .func (.func 85) #[] #[]] rfl (by (try simp only [List.map_toArray, List.map_cons, List.map_nil]); first | done | rfl) ?_; (with_reducible refine (api_Entry_84.calls K (fun _ => True) (.slice A1 l0.length l0.length) l0 (a0b l0) w _ HB.out (Kd.RC_cut HO.out (Nat.le_refl _) HL1.out) HS.out).mono ?_); rintro e w3 ⟨rfl, ho, hb, hk⟩; refine ⟨_, rfl, ?_⟩; have n0_ := za ho; have n1_ := za hb; clear HO HB; have HO := n0_; have HB := n1_; clear n0_ n1_ ho hb hk))
   go_ret
   exact ⟨_, rfl, Kd.RC_Vbase HO.out, HB.out⟩
 · rw [if_neg hlt] at h
   cases h
end Go.Proofs.YthghkglkifeagaaGreat.V
end
section
namespace Go.Proofs.YthghkglkifeagaaGreat.V
open Go.RowKit Go.Proofs.YthghkglkifeagaaGreatW.PrintWords Go.Proofs.YthghkglkifeagaaGreatW.PrintLast Go.Proofs.YthghkglkifeagaaGreatW.PrintMore
attribute [local go_sem] max2_int min2_int max_two min_two max_three min_three max_four min_four
set_option linter.unusedVariables false
set_option linter.unusedSimpArgs false
def block_Level.l0 : Nat → Int → Int → Option (Int)
  | 0, _, _ => none
  | k + 1, x0, x3 => if x3 < 62 then (if 0 ≤ x3 then (if (shl .i64 1 x3) < x0 then (block_Level.l0 k x0 (wrap64 (x3 + 1))) else (some x3)) else (none)) else (some x3)
def block_Level.f (k : Nat) (a0 : Int) : Option (Int) := block_Level.l0 k a0 0
theorem block_Level.calls (k : Nat) (a0 : Int) (r : Int) (w : World) (h : block_Level.f k a0 = some r) :
 Calls Tryz.prog 93 #[.int .i64 a0] w fun e w' => e = .returned (.int .i64 r) ∧ Drawn0 w w' := by
 have H : (block_Level.l0 k a0 0) = some r := h; clear h; have H' := za H; clear H; go_enter Tryz.func93, Tryz.ntmps93
 go_wp2
 go_loopg [3] k (fun kq v3 w' => ∃ (x3_1 : Int), v3 = .int .i64 x3_1 ∧ Aside0 (block_Level.l0 kq a0 x3_1 = some r) ∧ Aside0 (kq ≤ k) ∧ Drawn0 w w')
 case atStart => exact ⟨(0), rfl, H', ⟨ut _⟩, by repeat (first | exact vm _ | apply vl)⟩
 case round =>
  clear H'; obtain ⟨x3_1, rfl, HA, HK1, ⟨m1, rfl⟩⟩ := hrel
  cases gk with
  | zero => exact absurd HA.out (by simp [block_Level.l0])
  | succ k1 =>
   have H := HA.out; clear HA; simp only [block_Level.l0] at H
   by_cases c2 : x3_1 < 62
   · rw [if_pos c2] at H; have c2b0 : decide (x3_1 < 62) = true := decide_eq_true c2; clear c2
     by_cases c3 : 0 ≤ x3_1
     · rw [if_pos c3] at H; have c3b0 := eq_true c3; have c3b1 : decide (0 ≤ x3_1) = true := decide_eq_true c3; clear c3; obtain ⟨ji4, hji4⟩ : ∃ j_ : Int, (shl .i64 1 x3_1) = j_ := ⟨_, rfl⟩; (replace H : (if (ji4) < a0 then (block_Level.l0 k1 a0 (wrap64 (x3_1 + 1))) else (some x3_1)) = some r := by first | (rw [hji4] at H; exact H) | (simp only [hji4] at H ⊢; exact H)); have hji4_ : (IntKind.i64.wrap (1 * 2 ^ min x3_1.toNat 64)) = ji4 := hji4; have hji4z : x3_1 ≤ 64 → (IntKind.i64.wrap (1 * 2 ^ x3_1.toNat)) = ji4 := shl_small hji4; (have hji4u : (IntKind.i64.wrap (2 ^ min x3_1.toNat 64)) = ji4 := by have h_ := hji4_; rw [Int.one_mul] at h_; exact h_); (have hji4v : x3_1 ≤ 64 → (IntKind.i64.wrap (2 ^ x3_1.toNat)) = ji4 := fun hle_ => by have h_ := hji4z hle_; rw [Int.one_mul] at h_; exact h_); have hji4y : (wrap64 (1 * 2 ^ min x3_1.toNat 64)) = ji4 := (ue _).symm.trans hji4_; (have hji4x : x3_1 ≤ 64 → (wrap64 (1 * 2 ^ x3_1.toNat)) = ji4 := fun h_ => (ue _).symm.trans (hji4z h_))
       by_cases c5 : (ji4) < a0
       · rw [if_pos c5] at H; have c5b0 : decide ((ji4) < a0) = true := decide_eq_true c5; clear c5; have H' := za H; clear H
         go_wp2
         go_roundg k1
         case measure => have := HK1.out; omega
         case rel => exact ⟨(wrap64 (x3_1 + 1)), rfl, H', ⟨by have := HK1.out; omega⟩, by repeat (first | exact vm _ | apply vl)⟩
       · rw [if_neg c5] at H; have c5b0 : decide ((ji4) < a0) = false := decide_eq_false c5; clear c5; obtain rfl := Option.some.inj H
         go_wp2
         go_ret
         exact ⟨by first | rfl | (simp; done) | (simp only [← hji4] <;> (first | rfl | simp)) | (simp [*]; done), by repeat (first | exact vm _ | apply vl)⟩
     · rw [if_neg c3] at H; exact absurd H (by simp)
   · rw [if_neg c2] at H; have c2b0 : decide (x3_1 < 62) = false := decide_eq_false c2; clear c2; obtain rfl := Option.some.inj H
     go_wp2
     go_ret
     exact ⟨by first | rfl | (simp; done) | (simp [*]; done), by repeat (first | exact vm _ | apply vl)⟩
end Go.Proofs.YthghkglkifeagaaGreat.V
end
