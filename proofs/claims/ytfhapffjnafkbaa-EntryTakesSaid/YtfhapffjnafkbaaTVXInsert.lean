-- a text of this work, without what this claim doesn't use (wip/shake.py)
import Derived.Test.YtfhapffjnafkbaaTVPslices2
import Derived.Test.YtfhapffjnafkbaaTVPslicesZ
import Derived.Test.YtfhapffjnafkbaaTVP5V
import Derived.WalkSpells
import Derived.Lib.SliceRun
import Derived.Test.YtfhapffjnafkbaaTVCall
import Derived.Laws.CopyRow
import Derived.Laws.CopyOwn
import Derived.Laws.Externs
import Derived.Lib.Overlaps
import Derived.Lib.AppendZerosOnto
import Derived.Shelf.Spec.SlicesInsert
import Derived.Shelf.RegionOpenPlain
import Derived.WalkKit
section
set_option linter.unusedVariables false
set_option linter.unusedSimpArgs false
namespace Go.Proofs.Ytfhapffjnafkbaa.V
open Go.RowKit Go.Proofs.YtfhapffjnafkbaaW.PrintWords Go.Proofs.YtfhapffjnafkbaaW.PrintLast Go.Proofs.YtfhapffjnafkbaaW.PrintMore
theorem nil_or_snoc (l : List E) : l = [] ∨ ∃ P p, l = P ++ [p] := by
 induction l using rev_ind with
 | h0 => exact .inl rfl
 | h1 S s _ => exact .inr ⟨S, s, rfl⟩
set_option maxHeartbeats 800000 in
theorem sym_told : ∀ (n : Nat) (A X Y C : List E), X.length + Y.length = n → 0 < X.length → 0 < Y.length → SortedE X → SortedE Y → (A ++ X ++ Y ++ C).length < 1000000000 →
 Ev (fun k => api_Entry_67.f k (A ++ X ++ Y ++ C) ((A.length : Nat) : Int) ((A.length + X.length : Nat) : Int) ((A.length + X.length + Y.length : Nat) : Int)) (A ++ sortE (X ++ Y) ++ C) := by
 intro n
 induction n using Nat.strongRecOn with
 | _ n ih =>
  intro A X Y C hn hX0 hY0 hX hY hlen
  have hlen' := hlen
  simp only [List.length_append] at hlen'
  refine Ev.step (fun k => by simp only [api_Entry_67.f]; exact rfl) ?_
  have p1 : A.length ≤ A.length + X.length := by omega
  have p2 : A.length + X.length < 4611686018427387904 := by omega
  have p3 : A.length + X.length - A.length = X.length := by omega
  have p4 : A.length + X.length ≤ A.length + X.length + Y.length := by omega
  have p5 : A.length + X.length + Y.length < 4611686018427387904 := by omega
  have p6 : A.length + X.length + Y.length - (A.length + X.length) = Y.length := by omega
  by_cases h1 : X.length = 1
  · have c1 : ((X.length : Nat) : Int) = 1 := by omega
    obtain ⟨x, rfl⟩ := List.length_eq_one_iff.1 h1
    simp only [wsub p1 p2, p3, if_pos c1]
    have := sym_one A C x (A ++ sortE ([x] ++ Y) ++ C) Y.length [] Y [] (Nat.le_refl _) (by simpa using hY) (by simp) (by simp) (by simp; simp at hlen'; omega) (by simp)
    simpa using this
  have c1 : ¬ ((X.length : Nat) : Int) = 1 := by omega
  by_cases h2 : Y.length = 1
  · have c2 : ((Y.length : Nat) : Int) = 1 := by omega
    obtain ⟨y, rfl⟩ := List.length_eq_one_iff.1 h2
    simp only [wsub p1 p2, p3, if_neg c1, wsub p4 p5, p6, if_pos c2]
    have := sym_two A C y (A ++ sortE (X ++ [y]) ++ C) X.length [] X [] (Nat.le_refl _) (by simpa using hX) (by simp) (by simp) (by simp; simp at hlen'; omega) (by simp)
    simpa using this
  have c2 : ¬ ((Y.length : Nat) : Int) = 1 := by omega
  obtain ⟨mid, hmid⟩ : ∃ mid, mid = (A.length + (A.length + X.length + Y.length)) / 2 := ⟨_, rfl⟩
  have b0 : A.length + (A.length + X.length + Y.length) < 4611686018427387904 := by omega
  have b1 : mid + (A.length + X.length) < 4611686018427387904 := by omega
  have b2 : 0 < mid + (A.length + X.length) := by omega
  have b3 : A.length + X.length + Y.length ≤ mid + (A.length + X.length) ∨ ¬ (mid < A.length + X.length) := by omega
  have bl : A.length + X.length + Y.length ≤ (A ++ X ++ Y ++ C).length := by simp only [List.length_append]; omega
  have IH := Aside0.mk ih
  clear ih
  have search := fun lo hi hlh => sym_search (A ++ X ++ Y ++ C) A.length (A.length + X.length) (A.length + X.length + Y.length) mid hlen (by omega) (by omega) bl hmid (A ++ sortE (X ++ Y) ++ C) lo hi hlh (by
   intro s hlo hhi g1 g2
   have hs1 : A.length ≤ s := by omega
   have hs2 : s ≤ A.length + X.length := by omega
   have hs3 : s ≤ mid := by omega
   have hs4 : mid - s ≤ Y.length := by omega
   obtain ⟨X1, X2, hXe, hX1⟩ : ∃ X1 X2, X = X1 ++ X2 ∧ X1.length = s - A.length := ⟨X.take (s - A.length), X.drop (s - A.length), (List.take_append_drop _ _).symm, by rw [List.length_take]; omega⟩
   obtain ⟨Y1, Y2, hYe, hY1⟩ : ∃ Y1 Y2, Y = Y1 ++ Y2 ∧ Y1.length = mid - s := ⟨Y.take (mid - s), Y.drop (mid - s), (List.take_append_drop _ _).symm, by rw [List.length_take]; omega⟩
   subst hXe
   subst hYe
   simp only [List.length_append] at *
   obtain ⟨sx1, sx2, sx⟩ := sorted_append.1 hX
   obtain ⟨sy1, sy2, sy⟩ := sorted_append.1 hY
   have h12 : ∀ x ∈ X1, ∀ y ∈ Y2, leE x y = true := by
    intro x hx y hy
    rcases nil_or_snoc X1 with h0 | ⟨P, p, h0⟩
    · rw [h0] at hx; simp at hx
    · cases Y2 with
      | nil => simp at hy
      | cons q Q =>
       subst h0
       simp only [List.length_append, List.length_cons, List.length_nil] at *
       have hne : ¬ s = lo := by omega
       have g := g1.resolve_left hne
       have r1 : rd_T33 (A ++ (P ++ [p] ++ X2) ++ (Y1 ++ q :: Q) ++ C) ((mid + (A.length + (P.length + (0 + 1) + X2.length)) - s : Nat) : Int) = q := rd_at (A := A ++ (P ++ [p] ++ X2) ++ Y1) (B := Q ++ C) (by simp) (by simp; omega)
       have r2 : rd_T33 (A ++ (P ++ [p] ++ X2) ++ (Y1 ++ q :: Q) ++ C) ((s - 1 : Nat) : Int) = p := rd_at (A := A ++ P) (B := X2 ++ (Y1 ++ q :: Q) ++ C) (by simp) (by simp; omega)
       rw [r1, r2] at g
       have hpq : leE p q = true := by simp [leE, g]
       have hxp : leE x p = true := by
        rcases List.mem_append.1 hx with hx | hx
        · exact (sorted_append.1 sx1).2.2 x hx p (by simp)
        · rw [List.mem_singleton.1 hx]; exact leE_refl _
       have hqy : leE q y = true := by
        rcases List.mem_cons.1 hy with rfl | hy
        · exact leE_refl _
        · exact (sorted_cons.1 sy2).1 y hy
       exact leE_trans _ _ _ hxp (leE_trans _ _ _ hpq hqy)
   have h21 : ∀ y ∈ Y1, ∀ x ∈ X2, leE y x = true := by
    intro y hy x hx
    rcases nil_or_snoc Y1 with h0 | ⟨Q, q, h0⟩
    · rw [h0] at hy; simp at hy
    · cases X2 with
      | nil => simp at hx
      | cons p P =>
       subst h0
       simp only [List.length_append, List.length_cons, List.length_nil] at *
       have hne : ¬ s = hi := by omega
       have g := g2.resolve_left hne
       have r1 : rd_T33 (A ++ (X1 ++ p :: P) ++ (Q ++ [q] ++ Y2) ++ C) ((mid + (A.length + (X1.length + (P.length + 1))) - 1 - s : Nat) : Int) = q := rd_at (A := A ++ (X1 ++ p :: P) ++ Q) (B := Y2 ++ C) (by simp) (by simp; omega)
       have r2 : rd_T33 (A ++ (X1 ++ p :: P) ++ (Q ++ [q] ++ Y2) ++ C) ((s : Nat) : Int) = p := rd_at (A := A ++ X1) (B := P ++ (Q ++ [q] ++ Y2) ++ C) (by simp) (by simp; omega)
       rw [r1, r2] at g
       have hqp : leE q p = true := leE_of_ltE g
       have hyq : leE y q = true := by
        rcases List.mem_append.1 hy with hy | hy
        · exact (sorted_append.1 sy1).2.2 y hy q (by simp)
        · rw [List.mem_singleton.1 hy]; exact leE_refl _
       have hpx : leE p x = true := by
        rcases List.mem_cons.1 hx with rfl | hx
        · exact leE_refl _
        · exact (sorted_cons.1 sx2).1 x hx
       exact leE_trans _ _ _ hyq (leE_trans _ _ _ hqp hpx)
   have fin := sym_fin A X1 X2 Y1 Y2 C n (by omega) (by omega) (by omega) hX hY h12 h21 (by omega) (by omega) (by omega) (fun n' hn' A X Y C h1 h2 h3 h4 h5 h6 => IH.out n' hn' A X Y C h1 h2 h3 h4 h5 (by simpa only [List.length_append] using h6))
   have e1 : A.length + X1.length = s := by omega
   have e2 : A.length + X1.length + X2.length = A.length + (X1.length + X2.length) := by omega
   have e3 : A.length + n = A.length + (X1.length + X2.length) + (Y1.length + Y2.length) := by omega
   have e4 : A.length + X1.length + Y1.length = mid := by omega
   have e5 : A.length + X1.length + X2.length + Y1.length = mid + (A.length + (X1.length + X2.length)) - s := by omega
   have e6 : s ≤ mid + (A.length + (X1.length + X2.length)) := by omega
   have e7 : mid + (A.length + (X1.length + X2.length)) < 4611686018427387904 := by omega
   rw [e5, e4, e3, e2, e1] at fin
   simp only [wsub e6 e7]
   exact fin)
  have n1 : mid + (A.length + X.length) - 1 = mid + (A.length + X.length) - 1 := rfl
  by_cases h3 : mid < A.length + X.length
  · have c3 : ((A.length + X.length : Nat) : Int) > ((mid : Nat) : Int) := by omega
    have b4 : A.length + X.length + Y.length ≤ mid + (A.length + X.length) := by omega
    have k1 : mid + (A.length + X.length) - (A.length + X.length + Y.length) ≤ mid := by omega
    simp only [wsub p1 p2, p3, if_neg c1, wsub p4 p5, p6, if_neg c2, whalf b0, ← hmid, if_pos c3, wadd b1, wsub b4 b1]
    refine Ev.step (fun k => by simp only [api_Entry_67.j4]; exact rfl) ?_
    simp only [wsub1 b2 b1]
    exact search _ _ (.inl ⟨h3, rfl, rfl⟩) (mid + 1) (mid + (A.length + X.length) - (A.length + X.length + Y.length)) mid (by omega) (Nat.le_refl _) k1 (Nat.le_refl _) (.inl rfl) (.inl rfl)
  · have c3 : ¬ ((A.length + X.length : Nat) : Int) > ((mid : Nat) : Int) := by omega
    simp only [wsub p1 p2, p3, if_neg c1, wsub p4 p5, p6, if_neg c2, whalf b0, ← hmid, if_neg c3, wadd b1]
    refine Ev.step (fun k => by simp only [api_Entry_67.j4]; exact rfl) ?_
    simp only [wsub1 b2 b1]
    exact search _ _ (.inr ⟨by omega, rfl, rfl⟩) (A.length + X.length + 1) A.length (A.length + X.length) (by omega) (Nat.le_refl _) p1 (Nat.le_refl _) (.inl rfl) (.inl rfl)
def Chunks (bs : Nat) (l : List E) : Prop := ∀ q, SortedE ((l.drop (q * bs)).take bs)
theorem chunks_nil (bs : Nat) : Chunks bs [] := fun q => by simp; exact sorted_nil
theorem chunks_one {bs : Nat} {l : List E} (h : SortedE l) (hl : l.length ≤ bs) : Chunks bs l := fun q => by
 cases q with
 | zero => rw [Nat.zero_mul, List.drop_zero]; exact sorted_take h _
 | succ q =>
  have : l.length ≤ (q + 1) * bs := by rw [Nat.succ_mul]; omega
  rw [List.drop_eq_nil_of_le this]; simp; exact sorted_nil
theorem chunks_append {bs c : Nat} {P R : List E} (hP : Chunks bs P) (hR : Chunks bs R) (hc : P.length = c * bs) : Chunks bs (P ++ R) := fun q => by
 by_cases hq : q < c
 · have h1 : q * bs + bs ≤ P.length := by rw [hc, ← Nat.succ_mul]; exact Nat.mul_le_mul_right _ hq
   rw [List.drop_append_of_le_length (by omega), List.take_append_of_le_length (by rw [List.length_drop]; omega)]
   exact hP q
 · obtain ⟨d, rfl⟩ : ∃ d, q = c + d := ⟨q - c, by omega⟩
   rw [Nat.add_mul, ← hc, ← List.drop_drop, List.drop_left]
   exact hR d
theorem chunks_drop {bs c : Nat} {l : List E} (h : Chunks bs l) : Chunks bs (l.drop (c * bs)) := fun q => by
 rw [List.drop_drop, ← Nat.add_mul]; exact h (c + q)
theorem ins_blocks (L0 : List E) (cont : ∀ L : List E, Chunks 20 L → L.Perm L0 → Ev (fun k => api_Entry_60.l1 k L ((L0.length : Nat) : Int) 20) (sortE L0)) (hl : L0.length < 1000000000) :
 ∀ (d c : Nat) (P R : List E), R.length ≤ d → P.length = c * 20 → Chunks 20 P → (P ++ R).Perm L0 → Ev (fun k => api_Entry_60.l0 k (P ++ R) ((L0.length : Nat) : Int) 20 ((P.length : Nat) : Int) ((P.length + 20 : Nat) : Int)) (sortE L0) := by
 intro d
 induction d with
 | zero =>
  intro c P R hd hc hP hp
  have : R = [] := List.eq_nil_of_length_eq_zero (by omega)
  subst this
  refine Ev.step (fun k => by simp only [api_Entry_60.l0]; exact rfl) ?_
  have hle := hp.length_eq
  simp only [List.length_append, List.length_nil] at hle
  have c1 : ¬ ((P.length + 20 : Nat) : Int) ≤ ((L0.length : Nat) : Int) := by omega
  simp only [if_neg c1]
  have := ins_told P [] [] (by simp; omega)
  have e : P.length + ([] : List E).length = L0.length := by simp; omega
  rw [e] at this
  refine Ev.bind (a := P ++ []) ?_ (cont _ (by simpa using hP) hp)
  simpa [sortE_nil] using this
 | succ d ih =>
  intro c P R hd hc hP hp
  have hle := hp.length_eq
  simp only [List.length_append] at hle
  refine Ev.step (fun k => by simp only [api_Entry_60.l0]; exact rfl) ?_
  by_cases h : P.length + 20 ≤ L0.length
  · have c1 : ((P.length + 20 : Nat) : Int) ≤ ((L0.length : Nat) : Int) := by omega
    simp only [if_pos c1]
    obtain ⟨R1, R2, rfl, hR1⟩ : ∃ R1 R2, R = R1 ++ R2 ∧ R1.length = 20 := ⟨R.take 20, R.drop 20, (List.take_append_drop _ _).symm, by rw [List.length_take]; omega⟩
    simp only [List.length_append] at hle hd
    have hi := ins_told P R1 R2 (by simp; omega)
    rw [hR1] at hi
    have e1 : P ++ R1 ++ R2 = P ++ (R1 ++ R2) := by simp
    rw [e1] at hi
    refine Ev.bind hi ?_
    have hs : (sortE R1).length = 20 := by rw [sortE_length, hR1]
    have b1 : P.length + 20 + 20 < 4611686018427387904 := by omega
    have e3 : (P ++ sortE R1).length = P.length + 20 := by simp [hs]
    have hd2 : R2.length ≤ d := by omega
    have hc2 : (P ++ sortE R1).length = (c + 1) * 20 := by rw [e3]; omega
    have hw := wadd b1
    rw [show ((20 : Nat) : Int) = 20 from rfl] at hw
    simp only [hw]
    clear hw
    have := ih (c + 1) (P ++ sortE R1) R2 hd2 hc2 (chunks_append hP (chunks_one (sortE_sorted _) (Nat.le_of_eq hs)) hc) (by
     refine List.Perm.trans ?_ hp
     rw [List.append_assoc]
     exact List.Perm.append_left P (List.Perm.append_right R2 (sortE_perm R1)))
    rw [e3] at this
    exact this
  · have c1 : ¬ ((P.length + 20 : Nat) : Int) ≤ ((L0.length : Nat) : Int) := by omega
    simp only [if_neg c1]
    have hi := ins_told P R [] (by simp; omega)
    rw [hle, List.append_nil, List.append_nil] at hi
    refine Ev.bind hi (cont _ ?_ ?_)
    · exact chunks_append hP (chunks_one (sortE_sorted _) (by rw [sortE_length]; omega)) hc
    · exact List.Perm.trans (List.Perm.append_left P (sortE_perm R)) hp
theorem merge_pass (L0 : List E) (hl : L0.length < 1000000000) (bs : Nat) (hbs : 0 < bs) (hbn : bs < L0.length) (cont : ∀ L : List E, Chunks (bs * 2) L → L.Perm L0 → Ev (fun k => api_Entry_60.l1 k L ((L0.length : Nat) : Int) ((bs * 2 : Nat) : Int)) (sortE L0)) :
 ∀ (d c : Nat) (P R : List E), R.length ≤ d → P.length = c * (bs * 2) → Chunks (bs * 2) P → Chunks bs R → (P ++ R).Perm L0 → Ev (fun k => api_Entry_60.l2 k (P ++ R) ((L0.length : Nat) : Int) ((bs : Nat) : Int) ((P.length : Nat) : Int) ((P.length + bs * 2 : Nat) : Int)) (sortE L0) := by
 intro d
 induction d with
 | zero =>
  intro c P R hd hc hP hR hp
  have : R = [] := List.eq_nil_of_length_eq_zero (by omega)
  subst this
  have hle := hp.length_eq
  simp only [List.length_append, List.length_nil] at hle
  refine Ev.step (fun k => by simp only [api_Entry_60.l2]; exact rfl) ?_
  have c1 : ¬ ((P.length + bs * 2 : Nat) : Int) ≤ ((L0.length : Nat) : Int) := by omega
  have c2 : ¬ ((P.length + bs : Nat) : Int) < ((L0.length : Nat) : Int) := by omega
  have b1 : P.length + bs < 4611686018427387904 := by omega
  have w2 : wrap64 (((bs : Nat) : Int) * 2) = ((bs * 2 : Nat) : Int) := by rw [wrap_id (by omega) (by omega)]; omega
  simp only [if_neg c1, wadd b1, if_neg c2, w2]
  exact cont _ (by simpa using hP) hp
 | succ d ih =>
  intro c P R hd hc hP hR hp
  have hle := hp.length_eq
  simp only [List.length_append] at hle
  refine Ev.step (fun k => by simp only [api_Entry_60.l2]; exact rfl) ?_
  have b1 : P.length + bs < 4611686018427387904 := by omega
  have s0 : SortedE (R.take bs) := by have := hR 0; rwa [Nat.zero_mul, List.drop_zero] at this
  have s1 : SortedE ((R.drop bs).take bs) := by have := hR 1; rwa [Nat.one_mul] at this
  by_cases h : P.length + bs * 2 ≤ L0.length
  · have c1 : ((P.length + bs * 2 : Nat) : Int) ≤ ((L0.length : Nat) : Int) := by omega
    obtain ⟨R1, R2, R3, hRe, hR1, hR2, t0, t1, hR3⟩ : ∃ R1 R2 R3, R = R1 ++ (R2 ++ R3) ∧ R1.length = bs ∧ R2.length = bs ∧ SortedE R1 ∧ SortedE R2 ∧ Chunks bs R3 :=
     ⟨R.take bs, (R.drop bs).take bs, (R.drop bs).drop bs, by rw [List.take_append_drop, List.take_append_drop], by rw [List.length_take]; omega, by rw [List.length_take, List.length_drop]; omega, s0, s1, by
      rw [List.drop_drop, show bs + bs = 2 * bs by omega]; exact chunks_drop hR⟩
    subst hRe
    clear s0 s1
    simp only [List.length_append] at hle hd
    have hs : (sortE (R1 ++ R2)).length = bs * 2 := by rw [sortE_length, List.length_append]; omega
    have hm := sym_told (bs + bs) P R1 R2 R3 (by omega) (by omega) (by omega) t0 t1 (by simp; omega)
    have e1 : P ++ R1 ++ R2 ++ R3 = P ++ (R1 ++ (R2 ++ R3)) := by simp
    have e2 : P.length + R1.length + R2.length = P.length + bs * 2 := by omega
    rw [e2, e1, hR1] at hm
    have e3 : (P ++ sortE (R1 ++ R2)).length = P.length + bs * 2 := by simp [hs]
    have hc2 : (P ++ sortE (R1 ++ R2)).length = (c + 1) * (bs * 2) := by rw [e3, Nat.add_mul, hc]; omega
    have hd2 : R3.length ≤ d := by omega
    have b2 : P.length + bs * 2 + bs * 2 < 4611686018427387904 := by omega
    have w0 : wrap64 (2 * ((bs : Nat) : Int)) = ((bs * 2 : Nat) : Int) := by rw [wrap_id (by omega) (by omega)]; omega
    simp only [if_pos c1, wadd b1, w0, wadd b2]
    refine Ev.bind hm ?_
    have := ih (c + 1) (P ++ sortE (R1 ++ R2)) R3 hd2 hc2 (chunks_append hP (chunks_one (sortE_sorted _) (Nat.le_of_eq hs)) hc) hR3 (by
     refine List.Perm.trans ?_ hp
     rw [List.append_assoc]
     refine List.Perm.append_left P ?_
     have := List.Perm.append_right R3 (sortE_perm (R1 ++ R2))
     rwa [List.append_assoc R1 R2 R3] at this)
    rw [e3] at this
    exact this
  · have c1 : ¬ ((P.length + bs * 2 : Nat) : Int) ≤ ((L0.length : Nat) : Int) := by omega
    by_cases h2 : P.length + bs < L0.length
    · have c2 : ((P.length + bs : Nat) : Int) < ((L0.length : Nat) : Int) := by omega
      obtain ⟨R1, R2, hRe, hR1, t0, t1⟩ : ∃ R1 R2, R = R1 ++ R2 ∧ R1.length = bs ∧ SortedE R1 ∧ SortedE R2 :=
       ⟨R.take bs, R.drop bs, (List.take_append_drop _ _).symm, by rw [List.length_take]; omega, s0, by rwa [List.take_of_length_le (by rw [List.length_drop]; omega)] at s1⟩
      subst hRe
      clear s0 s1
      simp only [List.length_append] at hle hd
      have hm := sym_told (bs + R2.length) P R1 R2 [] (by omega) (by omega) (by omega) t0 t1 (by simp; omega)
      have e1 : P ++ R1 ++ R2 ++ [] = P ++ (R1 ++ R2) := by simp
      have e2 : P.length + R1.length + R2.length = L0.length := by omega
      rw [e2, e1, hR1, List.append_nil] at hm
      have hs : (sortE (R1 ++ R2)).length ≤ bs * 2 := by rw [sortE_length, List.length_append]; omega
      have w2 : wrap64 (((bs : Nat) : Int) * 2) = ((bs * 2 : Nat) : Int) := by rw [wrap_id (by omega) (by omega)]; omega
      simp only [if_neg c1, wadd b1, if_pos c2, w2]
      exact Ev.bind hm (cont _ (chunks_append hP (chunks_one (sortE_sorted _) hs) hc) (List.Perm.trans (List.Perm.append_left P (sortE_perm _)) hp))
    · have c2 : ¬ ((P.length + bs : Nat) : Int) < ((L0.length : Nat) : Int) := by omega
      have hRl : R.length ≤ bs := by omega
      have t0 : SortedE R := by rwa [List.take_of_length_le hRl] at s0
      have w2 : wrap64 (((bs : Nat) : Int) * 2) = ((bs * 2 : Nat) : Int) := by rw [wrap_id (by omega) (by omega)]; omega
      have hRl2 : R.length ≤ bs * 2 := by omega
      simp only [if_neg c1, wadd b1, if_neg c2, w2]
      exact cont _ (chunks_append hP (chunks_one t0 hRl2) hc) hp
theorem merge_all (L0 : List E) (hl : L0.length < 1000000000) : ∀ (d bs : Nat) (L : List E), L0.length - bs ≤ d → 0 < bs → bs ≤ 4000000000 → Chunks bs L → L.Perm L0 → Ev (fun k => api_Entry_60.l1 k L ((L0.length : Nat) : Int) ((bs : Nat) : Int)) (sortE L0) := by
 intro d
 induction d using Nat.strongRecOn with
 | _ d ih =>
  intro bs L hd hbs hbb hL hp
  refine Ev.step (fun k => by simp only [api_Entry_60.l1]; exact rfl) ?_
  by_cases h : bs < L0.length
  · have c1 : ((bs : Nat) : Int) < ((L0.length : Nat) : Int) := by omega
    have hm := merge_pass L0 hl bs hbs h (fun L' h1 h2 => ih (L0.length - bs * 2) (by omega) (bs * 2) L' (Nat.le_refl _) (by omega) (by omega) h1 h2) L.length 0 [] L (Nat.le_refl _) (by simp) (chunks_nil _) hL (by simpa using hp)
    have w0 : wrap64 (2 * ((bs : Nat) : Int)) = ((bs * 2 : Nat) : Int) := by rw [wrap_id (by omega) (by omega)]; omega
    simp only [if_pos c1, w0]
    simpa using hm
  · have c1 : ¬ ((bs : Nat) : Int) < ((L0.length : Nat) : Int) := by omega
    simp only [if_neg c1]
    have hs : SortedE L := by
     have := hL 0
     rwa [Nat.zero_mul, List.drop_zero, List.take_of_length_le (by have := hp.length_eq; omega)] at this
    rw [sortE_eq hs hp]
    exact Ev.now _
theorem stable_told (L : List E) (hl : L.length < 1000000000) : Ev (fun k => api_Entry_48.f k L) (sortE L) := by
 unfold api_Entry_48.f api_Entry_60.f
 refine Ev.bind (a := sortE L) ?_ (Ev.now _)
 have := ins_blocks L (fun L' h1 h2 => merge_all L hl L.length 20 L' (by omega) (by omega) (by omega) h1 h2) hl L.length 0 [] L (Nat.le_refl _) rfl (chunks_nil _) (by simp)
 simpa using this
end Go.Proofs.Ytfhapffjnafkbaa.V
end
section
set_option linter.unusedVariables false
set_option linter.unusedSimpArgs false
namespace Go.Proofs.Ytfhapffjnafkbaa.V
open Go.RowKit Go.Proofs.YtfhapffjnafkbaaW.PrintWords Go.Proofs.YtfhapffjnafkbaaW.PrintLast Go.Proofs.YtfhapffjnafkbaaW.PrintMore
def api_Entry_43.f (l0 : List E) : Option (List E) := some l0
set_option maxHeartbeats 400000 in
theorem api_Entry_43.calls (P0_ : Nat → Prop) (A0 : Option Addr) (c0 : Nat) (l0 : List E) (r : List E) (w : World) (hs0 : Kd.V k33 33 w w.heap.size (fun k_ => P0_ k_) (.slice A0 l0.length c0) l0) (h : api_Entry_43.f l0 = some r) :
 Calls Try.prog 43 #[.slice A0 l0.length c0] w fun e w' => ∃ v0_ : Value, e = .returned (v0_) ∧ Kd.V k33 33 w' w.heap.size (fun k_ => (P0_ k_ ∨ w.heap.size ≤ k_)) v0_ r ∧ Below w.heap.size w w' := by
 obtain rfl := Option.some.inj h
 clear h
 have HS := Aside0.mk hs0
 have HL := Aside0.mk (Kd.V_at hs0).2.1
 have hm : l0.length ≤ 9223372036854775807 := by have := (Kd.F_now (Kd.V_at hs0).2.2).2.1; omega
 clear hs0
 have hl := HL.out
 go_enter Try.func43, Try.ntmps43
 go_wp2
 go_ret
 exact ⟨_, rfl, ⟨A0, l0.length, rfl, Nat.le_refl _, Kd.F_mono (Kd.V_at HS.out).2.2 (fun k hk => .inl hk)⟩, Below.refl _ _⟩
def api_Entry_47.f (l0 : List E) : Option (List E) := if l0.length < 8796093022208 then some l0 else none
set_option maxHeartbeats 400000 in
theorem api_Entry_47.calls (A0 : Option Addr) (c0 : Nat) (l0 : List E) (r : List E) (w : World) (hr0 : Kd.C k33 w A0 l0.length l0) (hc0 : l0.length ≤ c0) (h : api_Entry_47.f l0 = some r) :
 Calls Try.prog 47 #[.slice A0 l0.length c0] w fun e w' => ∃ v0_ : Value, e = .returned (v0_) ∧ Kd.R k33 33 w' w.heap.size (fun _ => True) v0_ r ∧ Below w.heap.size w w' := by
 unfold api_Entry_47.f at h
 by_cases hlt : l0.length < 8796093022208
 · rw [if_pos hlt] at h
   obtain rfl := Option.some.inj h
   clear h
   have HL := Aside0.mk hlt
   clear hlt
   have HR0 := Aside0.mk hr0
   clear hr0
   have HB := Aside0.mk (Below.refl w.heap.size w)
   cases A0 with
   | none =>
    have hl0 : l0 = [] := by
     have h1 := HR0.out.2.2
     cases l0 with
     | nil => rfl
     | cons a l => obtain ⟨ad, h2, _⟩ := h1 (by simp); cases h2
    have H0 := Aside0.mk hl0
    clear hl0
    have he := Lib.run_eql_slice_nil (P := Try.prog) w 44 33 none l0.length c0 0 0 Try.underlying44
    go_enter Try.func47, Try.ntmps47
    go_wp2
    go_ret
    exact ⟨_, rfl, by rw [H0.out]; exact Kd.R_nil _ _ _ _ _, Below.refl _ _⟩
   | some ad =>
    have he := Lib.run_eql_slice_nil (P := Try.prog) w 44 33 (some ad) l0.length c0 0 0 Try.underlying44
    go_enter Try.func47, Try.ntmps47
    go_wp2_with (first
     | ((with_reducible refine gate_dst (N := 5) rfl ?_); refine Kd.R_lit k33 _ 33 ?hg (N := 5) ?hd (xs := ([] : List E)) (inner := []) (ok := fun _ => True) (okp := fun _ => True) ?hr ?hp (fun _ hk => hk) trivial (Below.refl _ _) (Nat.le_refl _) (by simp) ?_; (case hd => rfl); (case hg => rfl); (case hr => first | (go_simp; done) | (go_simp; rfl)); (case hp => exact (Reps.none _ _)); intro v1 w1 ho hb hg_ hnew_; clear hg_ hnew_; have n0_ := Aside0.mk ho; have n1_ := Aside0.mk (below_step HB.out hb); clear HB; have HO := n0_; have HB := n1_; clear n0_ n1_; clear hb ho)
     | ((with_reducible refine gate_builtin (b := .append) (xs := #[.tmp 5, .tmp 6]) rfl ?_); at_builtin; refine Kd.R_append_rows k33 (w0 := w) w.heap.size rfl (.tmp 5) (.tmp 6) 44 33 (.agg #[(.int .u64 0), (.int .i64 0)]) 16 rfl Try.underlying44 info33 rfl (by decide) (by omega) v1 [] l0 _ _ _ (fun _ => True) (fun _ => False) rfl rfl ?aO ?aR (fun _ _ h => h) (fun _ h => h.elim) ?aF ?aB ?aS ?aL ?_; (case aR => exact (Kd.C_below HR0.out HB.out)); (case aB => exact HB.out); (case aF => exact (fun _ _ => trivial)); (case aO => exact HO.out); (case aS => exact HB.out.size); (case aL => have := HL.out; simp only [List.length_nil]; omega); intro v2 w2 ho hb hg hat; rw [List.nil_append] at ho; have n0_ := Aside0.mk (hb); have n1_ := Aside0.mk (ho); clear HB; clear HO; have HB := n0_; have HO := n1_; clear n0_ n1_; clear ho hb hg hat))
    go_ret
    exact ⟨_, rfl, Kd.R_mono HO.out (fun _ hk => trivial), HB.out⟩
 · rw [if_neg hlt] at h
   cases h
end Go.Proofs.Ytfhapffjnafkbaa.V
end
section
set_option linter.unusedVariables false
set_option linter.unusedSimpArgs false
namespace Go.Proofs.YtfhapffjnafkbaaW.PrintWords
open Go.RowKit
namespace Kd
theorem RC_Vbase {α : Type} {d : Kd α} {e base b2 : Nat} {ok : Nat → Prop} {w : World} {v : Value} {xs : List α} (h : d.RC e w base ok v xs) : V d e w b2 (fun k => base ≤ k) v xs := by
 obtain ⟨_, A, n, c, c', rfl, h1, h2, h3⟩ := h
 obtain ⟨hn, hc, hF⟩ := V_at (R_V (base' := base) (R_mono (R_bound h3) (fun k hk => hk.2.1) : d.R e w base (fun k => base ≤ k) _ _))
 subst hn
 exact ⟨A, c, rfl, h1, hF⟩
end Kd
end Go.Proofs.YtfhapffjnafkbaaW.PrintWords
namespace Go.Proofs.Ytfhapffjnafkbaa.V
open Go.RowKit Go.Proofs.YtfhapffjnafkbaaW.PrintWords Go.Proofs.YtfhapffjnafkbaaW.PrintLast Go.Proofs.YtfhapffjnafkbaaW.PrintMore
theorem clip_exact (A : Option Addr) (n c : Nat) (w : World) (hl : n ≤ c) (hm : n ≤ 9223372036854775807) :
 Calls Try.prog 43 #[.slice A n c] w fun e w' => e = .returned (.slice A n n) ∧ w = w' := by
 go_enter Try.func43, Try.ntmps43
 go_wp2
 go_ret
 exact ⟨rfl, rfl⟩
def entry_Sort.f (l0 : List E) : Option (List E) := if l0.length < 1000000000 then some (sortE l0) else none
set_option maxHeartbeats 400000 in
theorem entry_Sort.calls (A0 : Option Addr) (c0 : Nat) (l0 : List E) (r : List E) (w : World) (hr0 : Kd.C k33 w A0 l0.length l0) (hc0 : l0.length ≤ c0) (h : entry_Sort.f l0 = some r) :
 Calls Try.prog 27 #[.slice A0 l0.length c0] w fun e w' => ∃ v0_ : Value, e = .returned (v0_) ∧ Kd.V k33 33 w' w.heap.size (fun k_ => (w.heap.size ≤ k_)) v0_ r ∧ Below w.heap.size w w' := by
 unfold entry_Sort.f at h
 by_cases hlt : l0.length < 1000000000
 · rw [if_pos hlt] at h
   obtain rfl := Option.some.inj h
   clear h
   obtain ⟨K, hK⟩ := stable_told l0 hlt
   have HS := Aside0.mk (hK K (Nat.le_refl _))
   have HCl := Aside0.mk (show api_Entry_47.f l0 = some l0 from if_pos (by omega))
   have HM := Aside0.mk (show l0.length ≤ 9223372036854775807 by omega)
   clear hK hlt
   have HR0 := Aside0.mk hr0
   have HC0 := Aside0.mk hc0
   clear hr0 hc0
   go_enter Try.func27, Try.ntmps27
   go_wp2_with (first
    | ((with_reducible refine gate_callee (f := 47) rfl ?_); refine goesL_ (some 5) rfl rfl Try.func47 (by kernel_rfl) rfl #[.slice A0 l0.length c0] rfl (by (try simp only [List.map_toArray, List.map_cons, List.map_nil]); first | done | rfl) ?_; (with_reducible refine (api_Entry_47.calls _ _ l0 l0 _ HR0.out HC0.out HCl.out).mono ?_); rintro e w1 ⟨v1, rfl, ho, hb⟩; refine ⟨_, rfl, ?_⟩; obtain ⟨A1, c1, e1⟩ := Kd.R_slice ho; subst e1; have HO := Aside0.mk ho; have HB := Aside0.mk hb; have HL1 := Aside0.mk (Kd.R_reads' ho).2.1; clear ho hb)
    | ((with_reducible refine gate_callee (f := 43) rfl ?_); refine goesL_ (some 6) rfl rfl Try.func43 (by kernel_rfl) rfl #[.slice A1 l0.length c1] rfl (by (try simp only [List.map_toArray, List.map_cons, List.map_nil]); first | done | rfl) ?_; (with_reducible refine (clip_exact A1 l0.length c1 _ HL1.out HM.out).mono ?_); rintro e w2 ⟨rfl, rfl⟩; refine ⟨_, rfl, ?_⟩)
    | ((with_reducible refine gate_callee (f := 48) rfl ?_); refine goesL_ (some 8) rfl rfl Try.func48 (by kernel_rfl) rfl #[.slice A1 l0.length l0.length, .func (.func 49) #[] #[]] rfl (by (try simp only [List.map_toArray, List.map_cons, List.map_nil]); first | done | rfl) ?_; (with_reducible refine (api_Entry_48.calls K (fun _ => True) (.slice A1 l0.length l0.length) l0 (sortE l0) w _ HB.out (Kd.RC_cut HO.out (Nat.le_refl _) HL1.out) HS.out).mono ?_); rintro e w3 ⟨rfl, ho, hb, hk⟩; refine ⟨_, rfl, ?_⟩; have n0_ := Aside0.mk ho; have n1_ := Aside0.mk hb; clear HO HB; have HO := n0_; have HB := n1_; clear n0_ n1_ ho hb hk))
   go_ret
   exact ⟨_, rfl, Kd.RC_Vbase HO.out, HB.out⟩
 · rw [if_neg hlt] at h
   cases h
end Go.Proofs.Ytfhapffjnafkbaa.V
end
section
set_option linter.unusedVariables false
set_option linter.unusedSimpArgs false
namespace Go.Proofs.Ytfhapffjnafkbaa.V
open Go.RowKit Go.Proofs.YtfhapffjnafkbaaW.PrintWords Go.Proofs.YtfhapffjnafkbaaW.PrintLast Go.Proofs.YtfhapffjnafkbaaW.PrintMore
def encE (e : E) : List Value := [.int .u64 e.f0, .int .i64 e.f1]
def encs (l : List E) : List Value := l.flatMap encE
theorem encs_cons (a : E) (l : List E) : encs (a :: l) = encE a ++ encs l := rfl
theorem encs_append (l m : List E) : encs (l ++ m) = encs l ++ encs m := by simp [encs]
theorem encs_length (l : List E) : (encs l).length = l.length * 2 := by
 induction l with
 | nil => rfl
 | cons a l ih => rw [encs_cons, List.length_append, ih, List.length_cons]; simp [encE]; omega
theorem encs_one (l : List E) : ∀ v ∈ encs l, v.oneCell' = true := by
 intro v hv
 obtain ⟨e, _, he⟩ := List.mem_flatMap.1 hv
 simp only [encE, List.mem_cons, List.not_mem_nil, or_false] at he
 rcases he with rfl | rfl <;> rfl
theorem encs_take (l : List E) (n : Nat) : (encs l).take (n * 2) = encs (l.take n) := by
 induction l generalizing n with
 | nil => simp [encs]
 | cons a l ih =>
  cases n with
  | zero => simp [encs]
  | succ n =>
   rw [encs_cons, List.take_succ_cons, encs_cons, Nat.succ_mul, List.take_append]
   have : (encE a).length = 2 := rfl
   rw [this, show n * 2 + 2 - 2 = n * 2 by omega, ih, List.take_of_length_le (by rw [this]; omega)]
theorem encs_drop (l : List E) (n : Nat) : (encs l).drop (n * 2) = encs (l.drop n) := by
 induction l generalizing n with
 | nil => simp [encs]
 | cons a l ih =>
  cases n with
  | zero => simp [encs]
  | succ n =>
   rw [encs_cons, List.drop_succ_cons, Nat.succ_mul, List.drop_append]
   have : (encE a).length = 2 := rfl
   rw [this, show n * 2 + 2 - 2 = n * 2 by omega, ih, List.drop_of_length_le (by rw [this]; omega), List.nil_append]
theorem reps_encs {w : World} {base : Nat} {ok : Nat → Prop} {l : List E} {cs : List Value} (h : Reps (k33.M w base ok) k33.sz l cs) : cs = encs l := by
 induction l generalizing cs with
 | nil => exact List.length_eq_zero_iff.1 (by have := h.1; simpa using this)
 | cons a l ih =>
  have h0 := k33_openM (h.2 0 a rfl)
  have hsz : k33.sz = 2 := rfl
  rw [hsz] at h h0
  simp only [Nat.zero_mul, List.drop_zero] at h0
  have ht : Reps (k33.M w base ok) k33.sz l (cs.drop 2) := by
   rw [hsz]
   refine ⟨by rw [List.length_drop, h.1, List.length_cons]; omega, fun j p hj => ?_⟩
   have := h.2 (j + 1) p hj
   rw [List.drop_drop]
   rwa [Nat.succ_mul, Nat.add_comm (j * 2) 2] at this
  rw [encs_cons, ← ih ht, show encE a = cs.take 2 from h0.symm, List.take_append_drop]
theorem encs_reps (w : World) (base : Nat) (ok : Nat → Prop) (l : List E) : Reps (k33.M w base ok) k33.sz l (encs l) := by
 have hsz : k33.sz = 2 := rfl
 rw [hsz]
 refine ⟨encs_length l, fun j p hj => ?_⟩
 rw [encs_drop]
 obtain ⟨hjl, he⟩ := List.getElem?_eq_some_iff.1 hj
 have : l.drop j = p :: l.drop (j + 1) := by rw [← he]; exact List.drop_eq_getElem_cons hjl
 rw [this, encs_cons]
 exact k33_mkM w base ok p
theorem row_open {e : Nat} {w : World} {base : Nat} {ok : Nat → Prop} {A : Option Addr} {n c : Nat} {l : List E} (h : k33.R e w base ok (.slice A n c) l) :
 n = l.length ∧ n ≤ c ∧ ((A = none ∧ l = [] ∧ c = 0) ∨ ∃ g cur, A = some ⟨g, 0, none⟩ ∧ base ≤ g ∧ ok g ∧ w.heap[g]? = some (.cells cur e (0, 0)) ∧ c ≤ 9223372036854775807 ∧ cur.size = c * 2 ∧ cur.toList.take (l.length * 2) = encs l) := by
 obtain ⟨hok, inner, ⟨h1, h2⟩, hr⟩ := h
 obtain rfl := reps_encs hr
 rcases h2 with ⟨he, h0⟩ | ⟨g, cap, cur, he, hb, hh, hnc, hcm, hcs, ht⟩
 · injection he with ha hn hc
   subst ha; subst hn; subst hc
   exact ⟨by omega, Nat.le_refl _, .inl ⟨rfl, List.length_eq_zero_iff.1 (by omega), rfl⟩⟩
 · injection he with ha hn hc
   subst ha; subst hn; subst hc
   exact ⟨rfl, hnc, .inr ⟨g, cur, rfl, hb, hok g rfl, hh, by unfold maxLen at hcm; omega, hcs, ht⟩⟩
theorem row_close {e : Nat} {w : World} {base : Nat} {ok : Nat → Prop} {g c : Nat} {cur : Array Value} {l : List E} (hb : base ≤ g) (hok : ok g) (hh : w.heap[g]? = some (.cells cur e (0, 0))) (hc : c ≤ 9223372036854775807) (hl : l.length ≤ c) (hs : cur.size = c * 2)
 (ht : cur.toList.take (l.length * 2) = encs l) : k33.R e w base ok (.slice (some ⟨g, 0, none⟩) l.length c) l :=
 ⟨fun k hk => (by simpa [Value.ownBlock] using hk : g = k) ▸ hok, encs l, ⟨encs_length l, .inr ⟨g, c, cur, rfl, hb, hh, hl, by unfold maxLen; omega, hs, ht⟩⟩, encs_reps _ _ _ _⟩
theorem run_copy_row2 {P : Program} (w : World) (dT sT ty elem : TypeId) (g o dLen dCap : Nat) (a : Addr) (sLen sCap : Nat) (cur : Array Value) (t : TypeId) (cs : List Value)
 (hu : P.underlying dT = some (.slice elem)) (hs : (P.info? elem).map (·.size) = some 2)
 (hg : w.heap[g]? = some (.cells cur t (0, 0))) (hn : cs.length = Nat.min sLen dLen * 2)
 (hsrc : ∀ j v, cs[j]? = some v → w.cell? (a.add j) = some v) (hfit : o + cs.length ≤ cur.size) (h1 : ∀ v ∈ cs, v.oneCell' = true) :
 (Builtin.copy_ #[dT, sT] ty #[.slice (some ⟨g, o, none⟩) dLen dCap, .slice (some a) sLen sCap]).run P w =
  .ok (goInt (Nat.min sLen dLen : Nat)) (w.setRow g (cur.toList.take o ++ cs ++ cur.toList.drop (o + cs.length)).toArray) := by
 have hl := run_loadCells_list (P := P) w a cs hsrc
 have hst := run_storeCells_at P g o t cs 0 cur w hg (by simpa using hfit) h1
 cases hq : P.info? elem with
 | none => simp [hq] at hs
 | some i =>
  have hi : i.size = 2 := by simpa [hq] using hs
  simp [Builtin.copy_, run_underlying hu, Builtin.lenOf, Builtin.firstCells, sizeOf, typeInfo, hq, hi, ← hn, hl, hst]
theorem cell_row {w : World} {g : Nat} {cur : Array Value} {t : TypeId} (hg : w.heap[g]? = some (.cells cur t (0, 0))) (j : Nat) : w.cell? ⟨g, j, none⟩ = cur[j]? := by
 simp [World.cell?, hg]
theorem frozen_row {w : World} {g : Nat} {cur : Array Value} {t : TypeId} (hg : w.heap[g]? = some (.cells cur t (0, 0))) (j : Nat) : w.frozen? ⟨g, j, none⟩ = false := by
 simp [World.frozen?, hg]
theorem shape_row {w : World} {g : Nat} {cur : Array Value} {t : TypeId} (hg : w.heap[g]? = some (.cells cur t (0, 0))) : w.shape? g = some (t, cur.size) := by
 simp [World.shape?, hg]
end Go.Proofs.Ytfhapffjnafkbaa.V
end
section
set_option linter.unusedVariables false
set_option linter.unusedSimpArgs false
namespace Go.Proofs.Ytfhapffjnafkbaa.V
open Go.RowKit Go.Proofs.YtfhapffjnafkbaaW.PrintWords Go.Proofs.YtfhapffjnafkbaaW.PrintLast Go.Proofs.YtfhapffjnafkbaaW.PrintMore
theorem take_app {α : Type} (a b : List α) (n : Nat) (h : a.length = n) : (a ++ b).take n = a := by subst h; simp
theorem drop_app {α : Type} (a b : List α) (n : Nat) (h : a.length = n) : (a ++ b).drop n = b := by subst h; simp
theorem put_cells (l : List E) (x : E) (i : Nat) (rest : List Value) (hi : i ≤ l.length) : (encs (l.take i) ++ encE x ++ (encs (l.drop i) ++ rest)).take ((l.length + 1) * 2) = encs (l.take i ++ x :: l.drop i) := by
 have h : encs (l.take i ++ x :: l.drop i) = encs (l.take i) ++ encE x ++ encs (l.drop i) := by rw [encs_append, encs_cons, List.append_assoc]
 rw [h, ← List.append_assoc]
 refine take_app _ _ _ ?_
 simp only [List.length_append, encs_length, List.length_take, List.length_drop]
 show _ + 2 + _ = _
 rw [Nat.min_eq_left hi]
 omega
set_option maxHeartbeats 4000000 in
set_option maxRecDepth 100000 in
theorem insert_shift (w : World) (g c i vb vc : Nat) (l : List E) (x : E) (cur curv : Array Value) (hi : i < l.length) (hroom : l.length + 1 ≤ c) (hc : c ≤ 9223372036854775807)
 (hg : w.heap[g]? = some (.cells cur 33 (0, 0))) (hs : cur.size = c * 2) (ht : cur.toList.take (l.length * 2) = encs l)
 (hvg : w.heap[vb]? = some (.cells curv 33 (0, 0))) (hvs : 2 ≤ curv.size) (hvt : curv.toList.take 2 = encE x) (hne : vb ≠ g) :
 Calls Try.prog 53 #[.slice (some ⟨g, 0, none⟩) l.length c, .int .i64 i, .slice (some ⟨vb, 0, none⟩) 1 vc] w fun e w' =>
  e = .returned (.slice (some ⟨g, 0, none⟩) (l.length + 1) c) ∧ ∃ C : Array Value, w'.heap[g]? = some (.cells C 33 (0, 0)) ∧ C.size = c * 2 ∧ C.toList.take ((l.length + 1) * 2) = encs (l.take i ++ x :: l.drop i) ∧ Below g w w' := by
 obtain ⟨n, hn⟩ : ∃ n, n = l.length := ⟨_, rfl⟩
 have hsz : (Try.prog.info? 33).map (·.size) = some 2 := by kernel_rfl
 have u44 := Try.underlying44
 have mixed : Try.prog.follows .mixedOrders = true := by kernel_rfl
 have hsize : ∀ w, (sizeOf 33).run Try.prog w = .ok 2 w := fun w => by
  cases hq : Try.prog.info? 33 with
  | none => rw [hq] at hsz; simp at hsz
  | some i0 =>
   have : i0.size = 2 := by rw [hq] at hsz; simpa using hsz
   simp [sizeOf, typeInfo, hq, this]
 have hov : ∀ lb cb o, (callFunc 61 #[.slice (some ⟨vb, 0, none⟩) 1 vc, .slice (some ⟨g, o, none⟩) lb cb]).run Try.prog w = .ok (.value (.bool false)) w := fun lb cb o => by
  rw [run_callFunc_extern Try.func61 (by kernel_rfl) (by kernel_rfl) (by kernel_rfl) (e := Extern.SlicesOverlaps.overlaps #[44, 44] #[4]) (by kernel_rfl),
   Lib.run_overlaps_apart w 44 4 33 Try.underlying44 2 hsize ⟨vb, 0, none⟩ ⟨g, o, none⟩ 1 vc lb cb hne 33 33 _ _ (shape_row hvg) (shape_row hg) (by omega) (frozen_row hvg 0) (frozen_row hvg _)]
  rfl
 obtain ⟨C1, hC1⟩ : ∃ C1 : List Value, C1 = cur.toList.take ((i + 1) * 2) ++ encs (l.drop i) ++ cur.toList.drop ((i + 1) * 2 + (encs (l.drop i)).length) := ⟨_, rfl⟩
 have hdl : (encs (l.drop i)).length = (l.length - i) * 2 := by rw [encs_length, List.length_drop]
 have hC1l : C1.length = c * 2 := by
  rw [hC1]
  simp only [List.length_append, List.length_take, List.length_drop, hdl, Array.length_toList, hs]
  omega
 have hcp1 : ∀ ty dc sc, (Builtin.copy_ #[44, 44] ty #[.slice (some ⟨g, (i + 1) * 2, none⟩) (n - i) dc, .slice (some ⟨g, i * 2, none⟩) (n + 1 - i) sc]).run Try.prog w.drew = .ok (goInt ((n - i : Nat) : Int)) (w.drew.setRow g C1.toArray) := fun ty dc sc => by
  have := run_copy_row2 (P := Try.prog) w.drew 44 44 ty 33 g ((i + 1) * 2) (n - i) dc ⟨g, i * 2, none⟩ (n + 1 - i) sc cur 33 (encs (l.drop i)) Try.underlying44 hsz hg (by rw [hdl, hn]; simp only [Nat.min_def]; split <;> omega)
   (fun j v hj => by
    rw [Addr.add_lit, cell_row (w := w.drew) hg]
    rw [← encs_drop, ← ht, List.getElem?_drop, List.getElem?_take] at hj
    split at hj
    · simpa using hj
    · cases hj) (by rw [hdl, hs]; omega) (encs_one _)
  rw [this, ← hC1]
  congr 2
  simp only [Nat.min_def]
  split <;> omega
 have hg1 : (w.drew.setRow g C1.toArray).heap[g]? = some (.cells C1.toArray 33 (0, 0)) := setRow_heap w.drew g cur _ _ _ hg
 have hcp2 : ∀ ty dc, (Builtin.copy_ #[44, 44] ty #[.slice (some ⟨g, i * 2, none⟩) (n + 1 - i) dc, .slice (some ⟨vb, 0, none⟩) 1 vc]).run Try.prog (w.drew.setRow g C1.toArray) = .ok (goInt 1) ((w.drew.setRow g C1.toArray).setRow g (C1.take (i * 2) ++ encE x ++ C1.drop (i * 2 + 2)).toArray) := fun ty dc => by
  have h1 : Nat.min 1 (n + 1 - i) = 1 := by simp only [Nat.min_def]; split <;> omega
  have := run_copy_row2 (P := Try.prog) (w.drew.setRow g C1.toArray) 44 44 ty 33 g (i * 2) (n + 1 - i) dc ⟨vb, 0, none⟩ 1 vc C1.toArray 33 (encE x) Try.underlying44 hsz hg1 (by rw [h1]; rfl)
   (fun j v hj => by
    have hv1 : (w.drew.setRow g C1.toArray).heap[vb]? = some (.cells curv 33 (0, 0)) := by rw [setRow_other _ _ _ _ hne]; exact hvg
    rw [Addr.add_lit, cell_row hv1]
    rw [← hvt, List.getElem?_take] at hj
    split at hj
    · simpa using hj
    · cases hj) (by simp only [List.size_toArray, hC1l]; show i * 2 + 2 ≤ _; omega) (fun v hv => encs_one [x] v (by simpa [encs] using hv))
  rw [this, h1]
  rfl
 have hend : ∃ C : Array Value, ((w.drew.setRow g C1.toArray).setRow g (C1.take (i * 2) ++ encE x ++ C1.drop (i * 2 + 2)).toArray).heap[g]? = some (.cells C 33 (0, 0)) ∧ C.size = c * 2 ∧ C.toList.take ((l.length + 1) * 2) = encs (l.take i ++ x :: l.drop i) ∧
  Below g w ((w.drew.setRow g C1.toArray).setRow g (C1.take (i * 2) ++ encE x ++ C1.drop (i * 2 + 2)).toArray) := by
  have hlen : (cur.toList.take ((i + 1) * 2)).length = (i + 1) * 2 := by rw [List.length_take, Array.length_toList, hs]; omega
  have h1 : C1.take (i * 2) = encs (l.take i) := by
   rw [hC1, List.append_assoc, List.take_append_of_le_length (by rw [hlen]; omega), List.take_take, Nat.min_eq_left (by omega), ← encs_take, ← ht, List.take_take, Nat.min_eq_left (by omega)]
  have h2 : C1.drop (i * 2 + 2) = encs (l.drop i) ++ cur.toList.drop ((i + 1) * 2 + (encs (l.drop i)).length) := by
   rw [hC1, List.append_assoc]
   exact drop_app _ _ _ (by rw [hlen]; omega)
  refine ⟨_, setRow_heap _ g _ _ _ _ hg1, ?_, ?_, ?_⟩
  · simp only [List.size_toArray, List.length_append, List.length_take, List.length_drop, hC1l]
    show min (i * 2) (c * 2) + 2 + (c * 2 - (i * 2 + 2)) = c * 2
    rw [Nat.min_eq_left (by omega)]
    omega
  · rw [h1, h2]
    exact put_cells l x i _ (by omega)
  · exact below_setRow (below_setRow (below_drew (Below.refl _ _)) (Nat.le_refl _) _) (Nat.le_refl _) _
 have HEND := Aside0.mk hend
 clear hend
 rw [← hn] at hi hroom ⊢
 rw [← hn] at HEND
 clear hn ht hs hC1l hdl hg1 hsize
 have HC1 := Aside0.mk hC1
 clear hC1
 have hw1 : IntKind.i64.wrap ((i : Int) + 1) = (i : Int) + 1 := by rw [IntKind.wrap_i64]; omega
 have hb1 : (0 : Int) ≤ (i : Int) + 1 := by omega
 have hin : i ≤ n := by omega
 have htn : ((i : Int) + 1).toNat = i + 1 := by omega
 have hb2 : ¬ (c = i + 1) := by omega
 have hb3 : (i : Int) ≤ (n : Int) + 1 := by omega
 have hb4 : ¬ (c = i) := by omega
 go_enter Try.func53, Try.ntmps53
 go_wp2_with (simp only [hov])
 go_region_law_o (refine step_copy_runI rfl _ _ 44 44 rfl _ _ (by simp [Act.eval, Act.put]) (by simp [Act.eval, Act.put]) (hcp1 _ _ _) ?_)
 go_wp2_with (at_builtin; refine wpList_copy_runI _ rfl _ _ 44 44 rfl _ _ rfl rfl (hcp2 _ _) ?_)
 go_ret
 first
  | exact ⟨rfl, HEND.out⟩
  | (refine ⟨rfl, ?_⟩; have h := HEND.out; rw [List.append_assoc (List.take (i * 2) C1)] at h; exact h)
set_option maxHeartbeats 4000000 in
set_option maxRecDepth 100000 in
theorem insert_grow (w : World) (g i vb vc : Nat) (l : List E) (x : E) (cur curv : Array Value) (hi : i < l.length) (hl : l.length < 1000000000)
 (hg : w.heap[g]? = some (.cells cur 33 (0, 0))) (hs : cur.size = l.length * 2) (ht : cur.toList.take (l.length * 2) = encs l)
 (hvg : w.heap[vb]? = some (.cells curv 33 (0, 0))) (hvs : 2 ≤ curv.size) (hvt : curv.toList.take 2 = encE x) :
 Calls Try.prog 53 #[.slice (some ⟨g, 0, none⟩) l.length l.length, .int .i64 i, .slice (some ⟨vb, 0, none⟩) 1 vc] w fun e w' =>
  ∃ G, e = .returned (.slice (some ⟨w.heap.size, 0, none⟩) (l.length + 1) G) ∧ l.length + 1 ≤ G ∧ G ≤ 9223372036854775807 ∧ ∃ C : Array Value, w'.heap[w.heap.size]? = some (.cells C 33 (0, 0)) ∧ C.size = G * 2 ∧ C.toList.take ((l.length + 1) * 2) = encs (l.take i ++ x :: l.drop i) ∧ Below w.heap.size w w' := by
 obtain ⟨n, hn⟩ : ∃ n, n = l.length := ⟨_, rfl⟩
 have u44 := Try.underlying44
 have mixed : Try.prog.follows .mixedOrders = true := by kernel_rfl
 have hsz : (Try.prog.info? 33).map (·.size) = some 2 := by kernel_rfl
 have hgl : g < w.heap.size := (Array.getElem?_eq_some_iff.1 hg).1
 have hvl : vb < w.heap.size := (Array.getElem?_eq_some_iff.1 hvg).1
 obtain ⟨i0, hi0, hzz⟩ := Option.map_eq_some_iff.1 info33
 simp only [Prod.mk.injEq] at hzz
 obtain ⟨hz0, hz1, hz2⟩ := hzz
 have hold : (Builtin.firstCells i0.size i (.slice (some ⟨g, 0, none⟩) i l.length)).run Try.prog w.drew = .ok (encs (l.take i)).toArray w.drew := by
  rw [hz1]
  refine run_firstCells_some w.drew 2 i ⟨g, 0, none⟩ i l.length (encs (l.take i)) (by rw [encs_length, List.length_take]; omega) (fun j v hj => ?_)
  rw [Addr.add_lit, cell_row (w := w.drew) hg]
  rw [← encs_take, ← ht, List.take_take, List.getElem?_take] at hj
  split at hj
  · simpa using hj
  · cases hj
 obtain ⟨G, hG⟩ : ∃ G, G = grownCap w (n + 1) n 33 := ⟨_, rfl⟩
 obtain ⟨ROW, hROW⟩ : ∃ ROW : Array Value, ROW = (encs (l.take i)).toArray ++ Builtin.zeroCells (Value.agg #[(.int .u64 0), (.int .i64 0)]).cells (n + 1 - i) ++ Builtin.zeroCells (Value.agg #[(.int .u64 0), (.int .i64 0)]).cells (G - (n + 1)) := ⟨_, rfl⟩
 have hrz : ∀ ty, (Builtin.append_ #[44, 3] ty #[.slice (some ⟨g, 0, none⟩) i n, .int .i64 ((n : Int) + 1 - (i : Int))]).run Try.prog w =
  .ok (.slice (some ⟨w.heap.size, 0, none⟩) (n + 1) G) (w.drew.alloc (.cells ROW 33)) := fun ty => by
  have h := Lib.run_append_grow_zeros (P := Try.prog) w 44 3 ty 33 i0 _ .i64 .i64 Try.underlying44 Try.underlying3 hi0 hz0 (some ⟨g, 0, none⟩) i l.length (encs (l.take i)) hold (n + 1 - i) (by omega) (by rw [hz1]; omega) (by omega) (by omega) (by rw [hz2]; omega)
   (by rw [hz2, show i + (n + 1 - i) = n + 1 by omega]; exact growslice_fits (by omega) (by omega))
  rw [show i + (n + 1 - i) = n + 1 by omega, ← hn, ← hG, ← hROW] at h
  rw [show (n : Int) + 1 - (i : Int) = ((n + 1 - i : Nat) : Int) by omega]
  exact h
 have hGn : n + 1 ≤ G := by rw [hG]; exact grownCap_ge w _ _ _
 have hG63 : G ≤ 9223372036854775807 := by
  have := grownCap_le_maxLen w (n + 1) n 33 (by unfold maxLen; omega)
  rw [← hG] at this
  unfold maxLen at this
  omega
 have hRs : ROW.size = G * 2 := by
  rw [hROW]
  simp only [Array.size_append, List.size_toArray, encs_length, List.length_take, Builtin.zeroCells, Array.size_map, Array.size_range]
  show min i l.length * 2 + (n + 1 - i) * 2 + (G - (n + 1)) * 2 = G * 2
  rw [Nat.min_eq_left (by omega)]
  omega
 have hRt : ROW.toList.take (i * 2) = encs (l.take i) := by
  rw [hROW, Array.append_assoc, Array.toList_append]
  exact take_app _ _ _ (by simp only [encs_length, List.length_take]; rw [Nat.min_eq_left (by omega)])
 obtain ⟨N, hN⟩ : ∃ N, N = w.heap.size := ⟨_, rfl⟩
 obtain ⟨W1, hW1⟩ : ∃ W1, W1 = w.drew.alloc (.cells ROW 33) := ⟨_, rfl⟩
 have hH : W1.heap[N]? = some (.cells ROW 33 (0, 0)) := by rw [hW1, hN]; show (w.heap.push _)[w.heap.size]? = _; simp
 have hHg : W1.heap[g]? = some (.cells cur 33 (0, 0)) := by rw [hW1, ← hg]; show (w.heap.push _)[g]? = _; simp [Array.getElem?_push, Nat.ne_of_lt hgl]
 have hHv : W1.heap[vb]? = some (.cells curv 33 (0, 0)) := by rw [hW1, ← hvg]; show (w.heap.push _)[vb]? = _; simp [Array.getElem?_push, Nat.ne_of_lt hvl]
 obtain ⟨C1, hC1⟩ : ∃ C1 : List Value, C1 = ROW.toList.take (i * 2) ++ encE x ++ ROW.toList.drop (i * 2 + 2) := ⟨_, rfl⟩
 obtain ⟨C2, hC2⟩ : ∃ C2 : List Value, C2 = C1.take ((i + 1) * 2) ++ encs (l.drop i) ++ C1.drop ((i + 1) * 2 + (encs (l.drop i)).length) := ⟨_, rfl⟩
 have hdl : (encs (l.drop i)).length = (l.length - i) * 2 := by rw [encs_length, List.length_drop]
 have hC1l : C1.length = G * 2 := by
  rw [hC1]
  simp only [List.length_append, List.length_take, List.length_drop, Array.length_toList, hRs]
  show min (i * 2) (G * 2) + 2 + (G * 2 - (i * 2 + 2)) = G * 2
  rw [Nat.min_eq_left (by omega)]
  omega
 have hC2l : C2.length = G * 2 := by
  rw [hC2]
  simp only [List.length_append, List.length_take, List.length_drop, hdl, hC1l]
  rw [Nat.min_eq_left (by omega)]
  omega
 have hcpA : ∀ (W : World), W.heap = W1.heap → ∀ ty dc, (Builtin.copy_ #[44, 44] ty #[.slice (some ⟨N, i * 2, none⟩) (n + 1 - i) dc, .slice (some ⟨vb, 0, none⟩) 1 vc]).run Try.prog W = .ok (goInt 1) (W.setRow N C1.toArray) := fun W hW ty dc => by
  have h1 : Nat.min 1 (n + 1 - i) = 1 := by simp only [Nat.min_def]; split <;> omega
  have := run_copy_row2 (P := Try.prog) W 44 44 ty 33 N (i * 2) (n + 1 - i) dc ⟨vb, 0, none⟩ 1 vc ROW 33 (encE x) Try.underlying44 hsz (by rw [hW]; exact hH) (by rw [h1]; rfl)
   (fun j v hj => by
    rw [Addr.add_lit, cell_row (w := W) (by rw [hW]; exact hHv)]
    rw [← hvt, List.getElem?_take] at hj
    split at hj
    · simpa using hj
    · cases hj) (by rw [hRs]; show i * 2 + 2 ≤ _; omega) (fun v hv => encs_one [x] v (by simpa [encs] using hv))
  rw [this, h1, hC1]
  rfl
 have hgN : g ≠ N := by omega
 have hcpB : ∀ (W : World), W.heap = (W1.setRow N C1.toArray).heap → ∀ ty dc sc, (Builtin.copy_ #[44, 44] ty #[.slice (some ⟨N, (i + 1) * 2, none⟩) (n - i) dc, .slice (some ⟨g, i * 2, none⟩) (n - i) sc]).run Try.prog W = .ok (goInt ((n - i : Nat) : Int)) (W.setRow N C2.toArray) := fun W hW ty dc sc => by
  have := run_copy_row2 (P := Try.prog) W 44 44 ty 33 N ((i + 1) * 2) (n - i) dc ⟨g, i * 2, none⟩ (n - i) sc C1.toArray 33 (encs (l.drop i)) Try.underlying44 hsz (by rw [hW]; exact setRow_heap _ _ _ _ _ _ hH) (by rw [hdl, hn]; simp [Nat.min_def])
   (fun j v hj => by
    rw [Addr.add_lit, cell_row (w := W) (by rw [hW, setRow_other _ _ _ _ hgN]; exact hHg)]
    rw [← encs_drop, ← ht, List.getElem?_drop, List.getElem?_take] at hj
    split at hj
    · simpa using hj
    · cases hj) (by simp only [List.size_toArray, hdl, hC1l]; omega) (encs_one _)
  rw [this, hC2]
  simp [Nat.min_def]
 have hend : ∀ W : World, W.heap = ((W1.setRow N C1.toArray).setRow N C2.toArray).heap → W.heap[N]? = some (.cells C2.toArray 33 (0, 0)) ∧ C2.toArray.size = G * 2 ∧ C2.toArray.toList.take ((n + 1) * 2) = encs (l.take i ++ x :: l.drop i) := fun W hW => by
  refine ⟨by rw [hW]; exact setRow_heap _ _ _ _ _ _ (setRow_heap _ _ _ _ _ _ hH), by simpa using hC2l, ?_⟩
  have hA : (ROW.toList.take (i * 2) ++ encE x).length = (i + 1) * 2 := by
   rw [List.length_append, List.length_take, Array.length_toList, hRs]
   show min (i * 2) (G * 2) + 2 = _
   rw [Nat.min_eq_left (by omega)]
   omega
  have h1 : C1.take ((i + 1) * 2) = encs (l.take i) ++ encE x := by
   rw [hC1, ← hRt]
   exact take_app _ _ _ hA
  rw [hC2, h1, hn, List.append_assoc (encs (l.take i) ++ encE x)]
  exact put_cells l x i _ (by omega)
 have hbel : ∀ W : World, W = (((w.alloc (.cells ROW 33)).drew.setRow N C1.toArray).drew).setRow N C2.toArray → Below N w W := fun W hW => by
  rw [hW]
  refine below_setRow (below_drew (below_setRow (below_drew ?_) (Nat.le_refl _) _)) (Nat.le_refl _) _
  rw [hN]
  exact below_alloc (Below.refl _ _) _
 have HEND := Aside0.mk hend
 have HBEL := Aside0.mk hbel
 have HGN := Aside0.mk (show n + 1 ≤ G ∧ G ≤ 9223372036854775807 from ⟨hGn, hG63⟩)
 rw [← hn] at hi ⊢
 subst hN
 have HW1 := Aside0.mk hW1
 rw [← hW1] at hrz
 clear hn ht hs hC1l hC2l hdl hend hbel hH hHg hHv hC1 hC2 hRt hRs hROW hG hold hi0 hz0 hz1 hz2 hl
 subst hW1
 have hw1 : IntKind.i64.wrap ((i : Int) + 1) = (i : Int) + 1 := by rw [IntKind.wrap_i64]; omega
 have hb1 : (0 : Int) ≤ (i : Int) + 1 := by omega
 have hin : i ≤ n := by omega
 have htn : ((i : Int) + 1).toNat = i + 1 := by omega
 have hb3 : (i : Int) ≤ (n : Int) := by omega
 have hGi : ¬ (G = i) := by omega
 have hGim : ¬ (G = i + 1) := by omega
 have hci : ¬ (n = i) := by omega
 have hcpA1 := hcpA ((w.alloc (.cells ROW 33)).drew) rfl
 have HCB := Aside0.mk (hcpB ((((w.alloc (.cells ROW 33)).drew).setRow w.heap.size C1.toArray).drew) rfl)
 clear hcpA hcpB
 go_enter Try.func53, Try.ntmps53
 go_wp2_with (at_builtin; refine Lib.wpList_append_run _ rfl _ _ _ _ rfl _ _ rfl rfl _ _ (hrz _) ?_)
 go_region_law_o (refine step_copy_runI rfl _ _ 44 44 rfl (.slice (some ⟨w.heap.size, (i + 1) * 2, none⟩) (n - i) (G - (i + 1))) (.slice (some ⟨g, i * 2, none⟩) (n - i) (n - i)) (by simp [Act.eval, Act.put]) (by simp [Act.eval, Act.put]) (HCB.out 3 (G - (i + 1)) (n - i)) ?_)
 go_wp2
 go_ret
 exact ⟨G, rfl, HGN.out.1, HGN.out.2, _, (HEND.out _ rfl).1, (HEND.out _ rfl).2.1, (HEND.out _ rfl).2.2, HBEL.out _ rfl⟩
set_option maxHeartbeats 4000000 in
set_option maxRecDepth 100000 in
theorem insert_end (w : World) (base : Nat) (A : Option Addr) (c : Nat) (l : List E) (x : E) (V : Option Addr) (vc : Nat) (hl : l.length < 1000000000)
 (HR : k33.R 33 w base (fun _ => True) (.slice A l.length c) l) (HV : k33.C w V 1 [x]) (hbase : base ≤ w.heap.size) :
 Calls Try.prog 53 #[.slice A l.length c, .int .i64 l.length, .slice V 1 vc] w fun e w' => ∃ v, e = .returned v ∧ k33.R 33 w' base (fun _ => True) v (l ++ [x]) ∧ Below base w w' := by
 have HO := Aside0.mk HR
 have HC := Aside0.mk HV
 have HL := Aside0.mk hl
 have HB := Aside0.mk hbase
 have hlc := (row_open HR).2.1
 clear HR HV hl hbase
 cases A with
 | none =>
  go_enter Try.func53, Try.ntmps53
  go_wp2_with ((with_reducible refine gate_builtin (b := .append) (xs := #[.tmp 23, .tmp 24]) rfl ?_); at_builtin; refine Kd.R_append_rows k33 (w0 := w) base rfl (.tmp 23) (.tmp 24) 44 33 (.agg #[(.int .u64 0), (.int .i64 0)]) 16 rfl Try.underlying44 info33 rfl (by decide) (by omega) (.slice none l.length c) l [x] _ _ _ (fun _ => True) (fun _ => False) rfl rfl HO.out HC.out (fun _ _ h => h) (fun _ h => h.elim) (fun _ _ => trivial) (Below.refl _ _) HB.out ?aL ?_; (case aL => have := HL.out; omega); intro v2 w2 ho hb hg hat; have n0_ := Aside0.mk hb; have n1_ := Aside0.mk ho; clear HB; clear HO; have HB := n0_; have HO := n1_; clear n0_ n1_; clear ho hb hg hat)
  go_ret
  exact ⟨_, rfl, HO.out, HB.out⟩
 | some ad =>
  go_enter Try.func53, Try.ntmps53
  go_wp2_with ((with_reducible refine gate_builtin (b := .append) (xs := #[.tmp 23, .tmp 24]) rfl ?_); at_builtin; refine Kd.R_append_rows k33 (w0 := w) base rfl (.tmp 23) (.tmp 24) 44 33 (.agg #[(.int .u64 0), (.int .i64 0)]) 16 rfl Try.underlying44 info33 rfl (by decide) (by omega) (.slice (some ad) l.length c) l [x] _ _ _ (fun _ => True) (fun _ => False) rfl rfl HO.out HC.out (fun _ _ h => h) (fun _ h => h.elim) (fun _ _ => trivial) (Below.refl _ _) HB.out ?aL ?_; (case aL => have := HL.out; omega); intro v2 w2 ho hb hg hat; have n0_ := Aside0.mk hb; have n1_ := Aside0.mk ho; clear HB; clear HO; have HB := n0_; have HO := n1_; clear n0_ n1_; clear ho hb hg hat)
  all_goals (go_ret; exact ⟨_, rfl, HO.out, HB.out⟩)
def api_Entry_53.f (s : List E) (i : Int) (v : List E) : Option (List E) := if 0 ≤ i ∧ i ≤ s.length ∧ s.length < 1000000000 ∧ v.length = 1 then some (s.take i.toNat ++ v ++ s.drop i.toNat) else none
theorem api_Entry_53.calls (base : Nat) (okA okV : Nat → Prop) (A : Option Addr) (c : Nat) (s : List E) (i : Int) (V : Option Addr) (vc : Nat) (v r : List E) (w : World)
 (HR : k33.R 33 w base okA (.slice A s.length c) s) (HV : k33.R 33 w base okV (.slice V v.length vc) v) (hne : ∀ k, (Value.slice A s.length c).ownBlock = some k → (Value.slice V v.length vc).ownBlock ≠ some k)
 (hbase : base ≤ w.heap.size) (h : api_Entry_53.f s i v = some r) :
 Calls Try.prog 53 #[.slice A s.length c, .int .i64 i, .slice V v.length vc] w fun e w' => ∃ v0_ : Value, e = .returned (v0_) ∧ k33.R 33 w' base (fun _ => True) v0_ r ∧ Below base w w' := by
 unfold api_Entry_53.f at h
 by_cases hc : 0 ≤ i ∧ i ≤ s.length ∧ s.length < 1000000000 ∧ v.length = 1
 · rw [if_pos hc] at h
   obtain rfl := Option.some.inj h
   obtain ⟨h0, h1, h2, h3⟩ := hc
   obtain ⟨j, rfl⟩ := Int.eq_ofNat_of_zero_le h0
   rw [Int.toNat_natCast]
   obtain ⟨x, rfl⟩ := List.length_eq_one_iff.1 h3
   by_cases hj : j = s.length
   · subst hj
     refine (insert_end w base A c s x V vc h2 (Kd.R_mono HR (fun _ _ => trivial)) (Kd.R_reads' HV).2.2 hbase).mono ?_
     rintro e w' ⟨v0, rfl, ho, hb⟩
     exact ⟨v0, rfl, by simpa using ho, hb⟩
   · have hj' : j < s.length := by omega
     obtain ⟨_, hsc, hA⟩ := row_open HR
     obtain ⟨_, hvc, hV⟩ := row_open HV
     rcases hA with ⟨_, hs, _⟩ | ⟨g, cur, rfl, hgb, _, hg, hc63, hs, ht⟩
     · rw [hs] at hj'; simp at hj'
     · rcases hV with ⟨_, hs', _⟩ | ⟨vb, curv, rfl, hvb, _, hvg, _, hvs, hvt⟩
       · cases hs'
       · have hn : vb ≠ g := fun e => hne g rfl (by rw [e]; rfl)
         have hvt' : curv.toList.take 2 = encE x := by simpa [encs] using hvt
         simp only [List.length_cons, List.length_nil] at hvc ⊢
         by_cases hroom : s.length + 1 ≤ c
         · refine (insert_shift w g c j vb vc s x cur curv hj' hroom hc63 hg hs ht hvg (by omega) hvt' hn).mono ?_
           rintro e w' ⟨rfl, C, k1, k2, k3, hb⟩
           have hlen : (s.take j ++ [x] ++ s.drop j).length = s.length + 1 := by simp; omega
           refine ⟨_, rfl, ?_, ⟨hb.os, hb.tape, hb.output, hb.size, fun k hk => hb.block k (by omega)⟩⟩
           have := row_close (e := 33) (w := w') (base := base) (ok := fun _ => True) (g := g) (c := c) (cur := C) (l := s.take j ++ [x] ++ s.drop j) hgb trivial k1 hc63 (by rw [hlen]; exact hroom) k2 (by rw [hlen, k3]; simp)
           rwa [hlen] at this
         · have hcl : c = s.length := by omega
           subst hcl
           refine (insert_grow w g j vb vc s x cur curv hj' h2 hg hs ht hvg (by omega) hvt').mono ?_
           rintro e w' ⟨G, rfl, g1, g2, C, k1, k2, k3, hb⟩
           have hlen : (s.take j ++ [x] ++ s.drop j).length = s.length + 1 := by simp; omega
           refine ⟨_, rfl, ?_, ⟨hb.os, hb.tape, hb.output, hb.size, fun k hk => hb.block k (by omega)⟩⟩
           have := row_close (e := 33) (w := w') (base := base) (ok := fun _ => True) (g := w.heap.size) (c := G) (cur := C) (l := s.take j ++ [x] ++ s.drop j) hbase trivial k1 g2 (by rw [hlen]; exact g1) k2 (by rw [hlen, k3]; simp)
           rwa [hlen] at this
 · rw [if_neg hc] at h
   cases h
end Go.Proofs.Ytfhapffjnafkbaa.V
end
