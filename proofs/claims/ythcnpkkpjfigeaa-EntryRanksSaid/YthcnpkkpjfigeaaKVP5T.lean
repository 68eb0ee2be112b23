-- a text of this work, without what this claim doesn't use (wip/shake.py)
import Derived.Test.YthcnpkkpjfigeaaKVP5S
set_option linter.unusedVariables false
set_option linter.unusedSimpArgs false
namespace Go.Proofs.Ythcnpkkpjfigeaa.V
open Go.RowKit Go.Proofs.YthcnpkkpjfigeaaW.PrintWords Go.Proofs.YthcnpkkpjfigeaaW.PrintLast Go.Proofs.YthcnpkkpjfigeaaW.PrintMore
theorem swap_far (P Q R : List E) (x y : E) : ((P ++ x :: Q ++ y :: R).set P.length y).set (P.length + 1 + Q.length) x = P ++ y :: Q ++ x :: R := by
 have e1 : (P ++ x :: Q ++ y :: R).set P.length y = P ++ y :: Q ++ y :: R := by
  rw [List.append_assoc, List.cons_append, set_mid, List.append_assoc, List.cons_append]
 rw [e1]
 have e2 : P.length + 1 + Q.length = (P ++ y :: Q).length := by simp; omega
 rw [e2, set_mid]
theorem swr_loop (A B C : List E) (a b n : Nat) : ∀ (X2 Y2 X1 Y1 : List E), X2.length = Y2.length → X1.length = Y1.length → a = A.length → b = A.length + X1.length + X2.length + B.length → n = X1.length + X2.length →
 (A ++ Y1 ++ X2 ++ B ++ X1 ++ Y2 ++ C).length < 1000000000 →
 Ev (fun k => api_Entry_71.l0 k (A ++ Y1 ++ X2 ++ B ++ X1 ++ Y2 ++ C) (a : Int) (b : Int) (n : Int) ((X1.length : Nat) : Int)) (A ++ (Y1 ++ Y2) ++ B ++ (X1 ++ X2) ++ C) := by
 intro X2
 induction X2 with
 | nil =>
  intro Y2 X1 Y1 h1 h2 ha hb hn hlen
  have : Y2 = [] := List.eq_nil_of_length_eq_zero h1.symm
  subst this
  refine Ev.step (fun k => by simp only [api_Entry_71.l0]; exact rfl) ?_
  have h0 : ¬ ((X1.length : Nat) : Int) < (n : Int) := by simp at hn; omega
  simp only [if_neg h0]
  have e : A ++ Y1 ++ [] ++ B ++ X1 ++ [] ++ C = A ++ (Y1 ++ []) ++ B ++ (X1 ++ []) ++ C := by simp
  rw [e]
  exact Ev.now _
 | cons x X2 ih =>
  intro Y2 X1 Y1 h1 h2 ha hb hn hlen
  cases Y2 with
  | nil => simp at h1
  | cons y Y2 =>
   have hlen' := hlen
   simp only [List.length_append, List.length_cons] at hlen' h1 hb hn
   clear hlen
   refine Ev.step (fun k => by simp only [api_Entry_71.l0]; exact rfl) ?_
   have h0 : ((X1.length : Nat) : Int) < (n : Int) := by omega
   have b1 : b + X1.length < 4611686018427387904 := by omega
   have b2 : a + X1.length < 4611686018427387904 := by omega
   have hE : A ++ Y1 ++ x :: X2 ++ B ++ X1 ++ y :: Y2 ++ C = (A ++ Y1) ++ x :: (X2 ++ B ++ X1) ++ y :: (Y2 ++ C) := by simp
   have r1 : rd_T33 (A ++ Y1 ++ x :: X2 ++ B ++ X1 ++ y :: Y2 ++ C) ((b + X1.length : Nat) : Int) = y := rd_at (A := (A ++ Y1) ++ x :: (X2 ++ B ++ X1)) (B := Y2 ++ C) (by rw [hE]) (by simp; omega)
   have r2 : rd_T33 (A ++ Y1 ++ x :: X2 ++ B ++ X1 ++ y :: Y2 ++ C) ((a + X1.length : Nat) : Int) = x := rd_at (A := A ++ Y1) (B := (X2 ++ B ++ X1) ++ y :: (Y2 ++ C)) (by rw [hE]; simp) (by simp; omega)
   have c1 : (0 : Int) ≤ ((b + X1.length : Nat) : Int) := by omega
   have c2 : ((b + X1.length : Nat) : Int) < ((A ++ Y1 ++ x :: X2 ++ B ++ X1 ++ y :: Y2 ++ C).length : Int) := by simp; omega
   have c3 : (0 : Int) ≤ ((a + X1.length : Nat) : Int) := by omega
   have c4 : ((a + X1.length : Nat) : Int) < ((A ++ Y1 ++ x :: X2 ++ B ++ X1 ++ y :: Y2 ++ C).length : Int) := by simp; omega
   simp only [wadd b1, wadd b2, if_pos h0, if_pos c1, if_pos c2, if_pos c3, if_pos c4, r1, r2, Int.toNat_natCast, eta]
   have hsw : ((A ++ Y1 ++ x :: X2 ++ B ++ X1 ++ y :: Y2 ++ C).set (a + X1.length) y).set (b + X1.length) x = A ++ (Y1 ++ [y]) ++ X2 ++ B ++ (X1 ++ [x]) ++ Y2 ++ C := by
    rw [hE]
    have e1 : a + X1.length = (A ++ Y1).length := by simp; omega
    have e2 : b + X1.length = (A ++ Y1).length + 1 + (X2 ++ B ++ X1).length := by simp; omega
    rw [e2, e1, swap_far]; simp
   rw [hsw, wrap_nat (by omega)]
   have := ih Y2 (X1 ++ [x]) (Y1 ++ [y]) (by omega) (by simp; omega) ha (by simp; omega) (by simp; omega) (by simp; omega)
   have e3 : (X1 ++ [x]).length = X1.length + 1 := by simp
   rw [e3] at this
   have e4 : A ++ (Y1 ++ [y] ++ Y2) ++ B ++ (X1 ++ [x] ++ X2) ++ C = A ++ (Y1 ++ y :: Y2) ++ B ++ (X1 ++ x :: X2) ++ C := by simp
   rw [e4] at this
   exact this
theorem swr_told (A X B Y C : List E) (h : X.length = Y.length) (hlen : (A ++ X ++ B ++ Y ++ C).length < 1000000000) :
 Ev (fun k => api_Entry_71.f k (A ++ X ++ B ++ Y ++ C) ((A.length : Nat) : Int) ((A.length + X.length + B.length : Nat) : Int) ((X.length : Nat) : Int)) (A ++ Y ++ B ++ X ++ C) := by
 unfold api_Entry_71.f
 have := swr_loop A B C A.length (A.length + X.length + B.length) X.length X Y [] [] h rfl rfl (by simp) (by simp) (by simpa using hlen)
 simpa using this
theorem rot_loop : ∀ (n : Nat) (A U V C : List E), U.length + V.length = n → 0 < U.length → 0 < V.length → (A ++ U ++ V ++ C).length < 1000000000 →
 Ev (fun k => api_Entry_69.l0 k (A ++ U ++ V ++ C) ((A.length + U.length : Nat) : Int) ((U.length : Nat) : Int) ((V.length : Nat) : Int)) (A ++ V ++ U ++ C) := by
 intro n
 induction n using Nat.strongRecOn with
 | _ n ih =>
  intro A U V C hn hU hV hlen
  have hlen' := hlen
  simp only [List.length_append] at hlen'
  refine Ev.step (fun k => by simp only [api_Entry_69.l0]; exact rfl) ?_
  simp only [wsub (show U.length ≤ A.length + U.length by omega) (show A.length + U.length < 4611686018427387904 by omega), show A.length + U.length - U.length = A.length by omega]
  by_cases h1 : U.length = V.length
  · have c1 : ((U.length : Nat) : Int) = ((V.length : Nat) : Int) := by omega
    simp only [if_pos c1]
    have := swr_told A U [] V C h1 (by simpa using hlen)
    refine Ev.bind (a := A ++ V ++ U ++ C) ?_ (Ev.now _)
    simpa using this
  · have c1 : ¬ ((U.length : Nat) : Int) = ((V.length : Nat) : Int) := by omega
    simp only [if_neg c1]
    by_cases h2 : V.length < U.length
    · have c2 : ((U.length : Nat) : Int) > ((V.length : Nat) : Int) := by omega
      simp only [if_pos c2]
      obtain ⟨U1, U2, rfl, hU1⟩ : ∃ U1 U2, U = U1 ++ U2 ∧ U1.length = V.length := ⟨U.take V.length, U.drop V.length, (List.take_append_drop _ _).symm, by rw [List.length_take]; omega⟩
      simp only [List.length_append] at h2 hlen' hn hU
      have hs := swr_told A U1 U2 V C hU1 (by simp; omega)
      have e1 : ((A.length + U1.length + U2.length : Nat) : Int) = ((A.length + (U1 ++ U2).length : Nat) : Int) := by simp; omega
      rw [e1, hU1] at hs
      have e2 : A ++ U1 ++ U2 ++ V ++ C = A ++ (U1 ++ U2) ++ V ++ C := by simp
      rw [e2] at hs
      refine Ev.bind hs ?_
      simp only [wsub (show V.length ≤ (U1 ++ U2).length by simp; omega) (show (U1 ++ U2).length < 4611686018427387904 by simp; omega), show (U1 ++ U2).length - V.length = U2.length by simp; omega]
      have := ih (U2.length + U1.length) (by omega) (A ++ V) U2 U1 C rfl (by omega) (by omega) (by simp; omega)
      have e3 : (((A ++ V).length + U2.length : Nat) : Int) = ((A.length + (U1 ++ U2).length : Nat) : Int) := by simp; omega
      rw [e3, hU1] at this
      have e4 : A ++ V ++ U1 ++ U2 ++ C = A ++ V ++ (U1 ++ U2) ++ C := by simp
      rw [e4] at this
      exact this
    · have c2 : ¬ ((U.length : Nat) : Int) > ((V.length : Nat) : Int) := by omega
      simp only [if_neg c2]
      obtain ⟨V1, V2, rfl, hV2⟩ : ∃ V1 V2, V = V1 ++ V2 ∧ V2.length = U.length := ⟨V.take (V.length - U.length), V.drop (V.length - U.length), (List.take_append_drop _ _).symm, by rw [List.length_drop]; omega⟩
      simp only [List.length_append] at h1 h2 hlen' hn hV
      have hs := swr_told A U V1 V2 C hV2.symm (by simp; omega)
      simp only [wadd (show A.length + U.length + (V1 ++ V2).length < 4611686018427387904 by simp; omega), wsub (show U.length ≤ A.length + U.length + (V1 ++ V2).length by simp; omega) (show A.length + U.length + (V1 ++ V2).length < 4611686018427387904 by simp; omega), show A.length + U.length + (V1 ++ V2).length - U.length = A.length + U.length + V1.length by simp; omega]
      have e2 : A ++ U ++ V1 ++ V2 ++ C = A ++ U ++ (V1 ++ V2) ++ C := by simp
      rw [e2] at hs
      refine Ev.bind hs ?_
      simp only [wsub (show U.length ≤ (V1 ++ V2).length by simp; omega) (show (V1 ++ V2).length < 4611686018427387904 by simp; omega), show (V1 ++ V2).length - U.length = V1.length by simp; omega]
      have := ih (V2.length + V1.length) (by omega) A V2 V1 (U ++ C) rfl (by omega) (by omega) (by simp; omega)
      rw [hV2] at this
      have e3 : A ++ V2 ++ V1 ++ (U ++ C) = A ++ V2 ++ V1 ++ U ++ C := by simp
      have e4 : A ++ V1 ++ V2 ++ (U ++ C) = A ++ (V1 ++ V2) ++ U ++ C := by simp
      rw [e3, e4] at this
      exact this
theorem rot_told (A U V C : List E) (hU : 0 < U.length) (hV : 0 < V.length) (hlen : (A ++ U ++ V ++ C).length < 1000000000) :
 Ev (fun k => api_Entry_69.f k (A ++ U ++ V ++ C) ((A.length : Nat) : Int) ((A.length + U.length : Nat) : Int) ((A.length + U.length + V.length : Nat) : Int)) (A ++ V ++ U ++ C) := by
 have hlen' := hlen
 simp only [List.length_append] at hlen'
 unfold api_Entry_69.f
 simp only [wsub (show A.length ≤ A.length + U.length by omega) (show A.length + U.length < 4611686018427387904 by omega), show A.length + U.length - A.length = U.length by omega, wsub (show A.length + U.length ≤ A.length + U.length + V.length by omega) (show A.length + U.length + V.length < 4611686018427387904 by omega), show A.length + U.length + V.length - (A.length + U.length) = V.length by omega]
 exact rot_loop _ A U V C rfl hU hV hlen
theorem bub_right (A : List E) (x : E) (C : List E) (a i : Nat) : ∀ (Q P : List E), a = A.length + P.length → i = A.length + P.length + 1 + Q.length → (A ++ P ++ x :: Q ++ C).length < 1000000000 →
 Ev (fun k => api_Entry_67.l1 k (A ++ P ++ x :: Q ++ C) (i : Int) (a : Int)) (A ++ P ++ Q ++ x :: C) := by
 intro Q
 induction Q generalizing a with
 | nil =>
  intro P ha hi hlen
  have hlen' := hlen
  simp only [List.length_append, List.length_cons, List.length_nil] at hlen' hi
  refine Ev.step (fun k => by simp only [api_Entry_67.l1]; exact rfl) ?_
  have p0 : 0 < i := by omega
  have p1 : i < 4611686018427387904 := by omega
  have c : ¬ (a : Int) < ((i - 1 : Nat) : Int) := by omega
  simp only [wsub1 p0 p1, if_neg c]
  have e : A ++ P ++ x :: [] ++ C = A ++ P ++ [] ++ x :: C := by simp
  rw [e]
  exact Ev.now _
 | cons q Q ih =>
  intro P ha hi hlen
  have hlen' := hlen
  simp only [List.length_append, List.length_cons] at hlen' hi
  refine Ev.step (fun k => by simp only [api_Entry_67.l1]; exact rfl) ?_
  have p0 : 0 < i := by omega
  have p1 : i < 4611686018427387904 := by omega
  have p2 : a ≤ 4611686018427387904 := by omega
  have c : (a : Int) < ((i - 1 : Nat) : Int) := by omega
  have hE : A ++ P ++ x :: q :: Q ++ C = (A ++ P) ++ x :: q :: (Q ++ C) := by simp
  have r1 : rd_T33 (A ++ P ++ x :: q :: Q ++ C) ((a + 1 : Nat) : Int) = q := rd_at (A := A ++ P ++ [x]) (B := Q ++ C) (by simp) (by simp; omega)
  have r2 : rd_T33 (A ++ P ++ x :: q :: Q ++ C) (a : Int) = x := rd_at (A := A ++ P) (B := q :: (Q ++ C)) (by simp) (by simp; omega)
  have c1 : (0 : Int) ≤ ((a + 1 : Nat) : Int) := by omega
  have c2 : ((a + 1 : Nat) : Int) < ((A ++ P ++ x :: q :: Q ++ C).length : Int) := by simp; omega
  have c3 : (0 : Int) ≤ (a : Int) := by omega
  have c4 : (a : Int) < ((A ++ P ++ x :: q :: Q ++ C).length : Int) := by simp; omega
  simp only [wsub1 p0 p1, wrap_nat p2, if_pos c, if_pos c1, if_pos c2, if_pos c3, if_pos c4, r1, r2, Int.toNat_natCast, eta]
  have hsw : ((A ++ P ++ x :: q :: Q ++ C).set a q).set (a + 1) x = A ++ (P ++ [q]) ++ x :: Q ++ C := by
   rw [hE, show a = (A ++ P).length by simp; omega, swap_next']; simp
  rw [hsw]
  have := ih (a + 1) (P ++ [q]) (by simp; omega) (by simp; omega) (by simp; omega)
  have e : A ++ (P ++ [q]) ++ Q ++ x :: C = A ++ P ++ q :: Q ++ x :: C := by simp
  rw [e] at this
  exact this
theorem bub_left (A : List E) (y : E) (i : Nat) (hi : i = A.length) : ∀ (P C : List E) (m : Nat), m = A.length + P.length → (A ++ P ++ y :: C).length < 1000000000 →
 Ev (fun k => api_Entry_67.l3 k (A ++ P ++ y :: C) (i : Int) (m : Int)) (A ++ y :: (P ++ C)) := by
 intro P
 induction P using rev_ind with
 | h0 =>
  intro C m hm hlen
  refine Ev.step (fun k => by simp only [api_Entry_67.l3]; exact rfl) ?_
  have c : ¬ (m : Int) > (i : Int) := by simp at hm; omega
  simp only [if_neg c]
  have e : A ++ [] ++ y :: C = A ++ y :: ([] ++ C) := by simp
  rw [e]
  exact Ev.now _
 | h1 P p ih =>
  intro C m hm hlen
  have hlen' := hlen
  simp only [List.length_append, List.length_cons, List.length_nil] at hlen' hm
  refine Ev.step (fun k => by simp only [api_Entry_67.l3]; exact rfl) ?_
  have p0 : 0 < m := by omega
  have p1 : m < 4611686018427387904 := by omega
  have c : (m : Int) > (i : Int) := by omega
  have hE : A ++ (P ++ [p]) ++ y :: C = (A ++ P) ++ p :: y :: C := by simp
  have r1 : rd_T33 (A ++ (P ++ [p]) ++ y :: C) ((m - 1 : Nat) : Int) = p := rd_at (A := A ++ P) (B := y :: C) (by simp) (by simp; omega)
  have r2 : rd_T33 (A ++ (P ++ [p]) ++ y :: C) (m : Int) = y := rd_at (A := A ++ P ++ [p]) (B := C) (by simp) (by simp; omega)
  have c1 : (0 : Int) ≤ ((m - 1 : Nat) : Int) := by omega
  have c2 : ((m - 1 : Nat) : Int) < ((A ++ (P ++ [p]) ++ y :: C).length : Int) := by simp; omega
  have c3 : (0 : Int) ≤ (m : Int) := by omega
  have c4 : (m : Int) < ((A ++ (P ++ [p]) ++ y :: C).length : Int) := by simp; omega
  simp only [wsub1 p0 p1, if_pos c, if_pos c1, if_pos c2, if_pos c3, if_pos c4, r1, r2, Int.toNat_natCast, eta]
  have hsw : ((A ++ (P ++ [p]) ++ y :: C).set m p).set (m - 1) y = A ++ P ++ y :: (p :: C) := by
   rw [hE, show m = (A ++ P).length + 1 by simp; omega, show (A ++ P).length + 1 - 1 = (A ++ P).length by omega, swap_next]
  rw [hsw]
  have := ih (p :: C) (m - 1) (by omega) (by simp; omega)
  have e : A ++ y :: (P ++ p :: C) = A ++ y :: (P ++ [p] ++ C) := by simp
  rw [e] at this
  exact this
end Go.Proofs.Ythcnpkkpjfigeaa.V
