-- a text of this work, without what this claim doesn't use (wip/shake.py)
import Derived.Test.YthcnpkkpjfigeaaKVP5
import Derived.Test.YthcnpkkpjfigeaaKVPslices1
import Derived.Test.YthcnpkkpjfigeaaKVPslices2
import Derived.Test.YthcnpkkpjfigeaaKVPslicesZ
set_option linter.unusedVariables false
set_option linter.unusedSimpArgs false
namespace Go.Proofs.Ythcnpkkpjfigeaa.V
open Go.RowKit Go.Proofs.YthcnpkkpjfigeaaW.PrintWords Go.Proofs.YthcnpkkpjfigeaaW.PrintLast Go.Proofs.YthcnpkkpjfigeaaW.PrintMore
theorem u64_wrap_id {i : Int} (h0 : 0 ≤ i) (h1 : i < 18446744073709551616) : IntKind.u64.wrap i = i := by
 simp [IntKind.wrap, IntKind.bits, IntKind.signed]; omega
theorem wadd {a b : Nat} (h : a + b < 4611686018427387904) : wrap64 ((a : Int) + (b : Int)) = ((a + b : Nat) : Int) := by rw [wrap_id (by omega) (by omega)]; omega
theorem wsub {a b : Nat} (h : b ≤ a) (h2 : a < 4611686018427387904) : wrap64 ((a : Int) - (b : Int)) = ((a - b : Nat) : Int) := by rw [wrap_id (by omega) (by omega)]; omega
theorem wsub1 {a : Nat} (h : 0 < a) (h2 : a < 4611686018427387904) : wrap64 ((a : Int) - 1) = ((a - 1 : Nat) : Int) := by rw [wrap_id (by omega) (by omega)]; omega
theorem whalf {a b : Nat} (h : a + b < 4611686018427387904) : wrap64 ((IntKind.u64.wrap (wrap64 ((a : Int) + (b : Int)))) / 2) = (((a + b) / 2 : Nat) : Int) := by
 rw [wadd h, u64_wrap_id (by omega) (by omega), wrap_id (by omega) (by omega)]; omega
theorem sortcmp_ev (x y : E) : Ev (fun k => entry_Sort_1.f k x.f0 x.f1 y.f0 y.f1) (cmpE x y) := ⟨3, fun k hk => by show entry_Sort_1.f k x.f0 x.f1 y.f0 y.f1 = _; unfold entry_Sort_1.f; rw [compare_told k hk]; rfl⟩
theorem rd_mid (A B : List E) (x : E) : rd_T33 (A ++ x :: B) (A.length : Int) = x := by rw [rd_nat]; simp [List.getD_eq_getElem?_getD]
theorem rd_at {l A B : List E} {x : E} {i : Nat} (hl : l = A ++ x :: B) (hi : i = A.length) : rd_T33 l (i : Int) = x := by subst hl; subst hi; exact rd_mid A B x
theorem set_mid (A B : List E) (x y : E) : (A ++ x :: B).set A.length y = A ++ y :: B := by simp
theorem swap_next (A B : List E) (x y : E) : ((A ++ x :: y :: B).set (A.length + 1) x).set A.length y = A ++ y :: x :: B := by
 simp [List.set_append]
theorem swap_next' (A B : List E) (x y : E) : ((A ++ x :: y :: B).set A.length y).set (A.length + 1) x = A ++ y :: x :: B := by
 simp [List.set_append]
theorem eta (x : E) : (⟨x.f0, x.f1⟩ : E) = x := rfl
theorem rev_ind {P : List E → Prop} (h0 : P []) (h1 : ∀ S s, P S → P (S ++ [s])) : ∀ S, P S := by
 intro S
 rw [← S.reverse_reverse]
 induction S.reverse with
 | nil => exact h0
 | cons s T ih => rw [List.reverse_cons]; exact h1 _ _ ih
theorem ins_inner (A : List E) (a b i : Nat) (ha : a = A.length) (r : List E) : ∀ (S : List E) (e : E) (T D : List E), SortedE S → (A ++ S ++ e :: T ++ D).length < 1000000000 → i < 1000000000 →
 (∀ s ∈ S, ∀ t ∈ T, leE s t = true) → (∀ t ∈ T, ltE e t = true) → SortedE T →
 Ev (fun k => api_Entry_66.l0 k (A ++ sortE (S ++ e :: T) ++ D) (a : Int) (b : Int) (wrap64 ((i : Int) + 1))) r →
 Ev (fun k => api_Entry_66.l1 k (A ++ S ++ e :: T ++ D) (a : Int) (b : Int) (i : Int) ((A ++ S).length : Int)) r := by
 intro S
 induction S using rev_ind with
 | h0 =>
  intro e T D hS hlen hi hST hT hTs hk
  refine Ev.step (fun k => by simp only [api_Entry_66.l1]; exact rfl) ?_
  have h0 : ¬ (((A ++ []).length : Nat) : Int) > (a : Int) := by simp; omega
  simp only [if_neg h0]
  have hs : sortE ([] ++ e :: T) = e :: T := sortE_of_sorted (sorted_cons.2 ⟨fun t ht => leE_of_ltE (hT t ht), hTs⟩)
  rw [hs] at hk
  simpa using hk
 | h1 S s ih =>
  intro e T D hS hlen hi hST hT hTs hk
  have hlen' := hlen
  simp only [List.length_append, List.length_cons, List.length_nil] at hlen'
  obtain ⟨hS1, _, hS2⟩ := sorted_append.1 hS
  refine Ev.step (fun k => by simp only [api_Entry_66.l1]; exact rfl) ?_
  have hj : (((A ++ (S ++ [s])).length : Nat) : Int) = ((A.length + S.length + 1 : Nat) : Int) := by simp; omega
  have hw : wrap64 ((((A.length + S.length + 1 : Nat) : Int)) - 1) = ((A.length + S.length : Nat) : Int) := by rw [wsub1 (by omega) (by omega)]; rfl
  have hlE : A ++ (S ++ [s]) ++ e :: T ++ D = (A ++ S) ++ s :: e :: (T ++ D) := by simp
  have r1 : rd_T33 (A ++ (S ++ [s]) ++ e :: T ++ D) ((A.length + S.length + 1 : Nat) : Int) = e := rd_at (A := A ++ S ++ [s]) (B := T ++ D) (by simp) (by simp; omega)
  have r2 : rd_T33 (A ++ (S ++ [s]) ++ e :: T ++ D) ((A.length + S.length : Nat) : Int) = s := rd_at (A := A ++ S) (B := e :: (T ++ D)) (by simp) (by simp)
  have c1 : ((A.length + S.length + 1 : Nat) : Int) > (a : Int) := by omega
  have c2 : (0 : Int) ≤ ((A.length + S.length + 1 : Nat) : Int) := by omega
  have c3 : ((A.length + S.length + 1 : Nat) : Int) < ((A ++ (S ++ [s]) ++ e :: T ++ D).length : Int) := by simp; omega
  have c4 : (0 : Int) ≤ ((A.length + S.length : Nat) : Int) := by omega
  have c5 : ((A.length + S.length : Nat) : Int) < ((A ++ (S ++ [s]) ++ e :: T ++ D).length : Int) := by simp; omega
  rw [hj]
  simp only [hw, if_pos c1, if_pos c2, if_pos c3, if_pos c4, if_pos c5, r1, r2, Int.toNat_natCast]
  refine Ev.bind (sortcmp_ev e s) ?_
  cases hlt : ltE e s with
  | true =>
   have hn : cmpE e s < 0 := (cmpE_neg e s).2 hlt
   simp only [if_pos hn, eta]
   have hsw : ((A ++ (S ++ [s]) ++ e :: T ++ D).set (A.length + S.length + 1) s).set (A.length + S.length) e = A ++ S ++ e :: (s :: T) ++ D := by
    rw [hlE]
    have := swap_next (A ++ S) (T ++ D) s e
    rw [List.length_append] at this
    rw [this]; simp
   rw [hsw]
   have hlen2 : (A ++ S ++ e :: (s :: T) ++ D).length < 1000000000 := by simp; omega
   have hST' : ∀ x ∈ S, ∀ t ∈ s :: T, leE x t = true := fun x hx t ht => by
    rcases List.mem_cons.1 ht with rfl | ht
    · exact hS2 x hx _ (by simp)
    · exact hST x (by simp [hx]) t ht
   have hT' : ∀ t ∈ s :: T, ltE e t = true := fun t ht => by
    rcases List.mem_cons.1 ht with rfl | ht
    · exact hlt
    · exact hT t ht
   have hTs' : SortedE (s :: T) := sorted_cons.2 ⟨fun t ht => hST s (by simp) t ht, hTs⟩
   have hp : sortE (S ++ [s] ++ e :: T) = sortE (S ++ e :: (s :: T)) := sortE_of_perm (by
    rw [List.append_assoc]
    exact List.Perm.append_left S (List.Perm.swap e s T))
   rw [hp] at hk
   have := ih e (s :: T) D hS1 hlen2 hi hST' hT' hTs' hk
   rw [List.length_append] at this
   exact this
  | false =>
   have hn : ¬ cmpE e s < 0 := fun h => by rw [(cmpE_neg e s).1 h] at hlt; cases hlt
   simp only [if_neg hn]
   have hle : leE s e = true := by simp [leE, hlt]
   have hso : SortedE (S ++ [s] ++ e :: T) := by
    refine sorted_append.2 ⟨hS, sorted_cons.2 ⟨fun t ht => leE_of_ltE (hT t ht), hTs⟩, fun x hx t ht => ?_⟩
    rcases List.mem_cons.1 ht with rfl | ht
    · rcases List.mem_append.1 hx with hx | hx
      · exact leE_trans _ _ _ (hS2 x hx s (by simp)) hle
      · rw [List.mem_singleton.1 hx]; exact hle
    · exact hST x hx t ht
   rw [sortE_of_sorted hso] at hk
   simpa using hk
theorem ins_outer (A : List E) (a b : Nat) (ha : a = A.length) (D : List E) : ∀ (R S : List E), SortedE S → b = a + S.length + R.length → (A ++ S ++ R ++ D).length < 1000000000 →
 Ev (fun k => api_Entry_66.l0 k (A ++ S ++ R ++ D) (a : Int) (b : Int) ((a + S.length : Nat) : Int)) (A ++ sortE (S ++ R) ++ D) := by
 intro R
 induction R with
 | nil =>
  intro S hS hb hlen
  refine Ev.step (fun k => by simp only [api_Entry_66.l0]; exact rfl) ?_
  have h0 : ¬ ((a + S.length : Nat) : Int) < (b : Int) := by simp at hb; omega
  simp only [if_neg h0]
  rw [List.append_nil, List.append_nil, sortE_of_sorted hS]
  exact Ev.now _
 | cons e R ih =>
  intro S hS hb hlen
  have hlen' := hlen
  simp only [List.length_append, List.length_cons] at hlen' hb
  refine Ev.step (fun k => by simp only [api_Entry_66.l0]; exact rfl) ?_
  have h0 : ((a + S.length : Nat) : Int) < (b : Int) := by omega
  simp only [if_pos h0]
  have hin := ins_inner A a b (a + S.length) ha (A ++ sortE (S ++ e :: R) ++ D) S e [] (R ++ D) hS (by simp; omega) (by omega) (by simp) (by simp) sorted_nil (by
   rw [wrap_nat (by omega)]
   have hl := sortE_length (S ++ [e])
   have := ih (sortE (S ++ [e])) (sortE_sorted _) (by rw [hl]; simp; omega) (by simp [hl]; omega)
   rw [hl] at this
   have hp : sortE (sortE (S ++ [e]) ++ R) = sortE (S ++ e :: R) := sortE_of_perm (by
    have := List.Perm.append_right R (sortE_perm (S ++ [e]))
    rwa [List.append_assoc S [e] R] at this)
   rw [hp] at this
   have e1 : a + (S ++ [e]).length = a + S.length + 1 := by simp; omega
   rw [e1] at this
   have e2 : A ++ sortE (S ++ [e]) ++ R ++ D = A ++ sortE (S ++ [e]) ++ (R ++ D) := by simp
   rw [e2] at this
   exact this)
  have e3 : A ++ S ++ e :: [] ++ (R ++ D) = A ++ S ++ e :: R ++ D := by simp
  rw [e3] at hin
  have e4 : (((A ++ S).length : Nat) : Int) = ((a + S.length : Nat) : Int) := by rw [List.length_append, ha]
  rw [e4] at hin
  exact hin
theorem ins_told (A X D : List E) (hlen : (A ++ X ++ D).length < 1000000000) : Ev (fun k => api_Entry_66.f k (A ++ X ++ D) (A.length : Int) ((A.length + X.length : Nat) : Int)) (A ++ sortE X ++ D) := by
 have hlen' := hlen
 simp only [List.length_append] at hlen'
 unfold api_Entry_66.f
 cases X with
 | nil =>
  refine Ev.step (fun k => by simp only [api_Entry_66.l0]; exact rfl) ?_
  have h0 : ¬ wrap64 ((A.length : Int) + 1) < ((A.length + ([] : List E).length : Nat) : Int) := by rw [wrap_nat (by omega)]; simp; omega
  simp only [if_neg h0, sortE_nil]
  exact Ev.now _
 | cons e R =>
  rw [wrap_nat (by omega)]
  have := ins_outer A A.length (A.length + (e :: R).length) rfl D R [e] (List.pairwise_singleton _ _) (by simp; omega) (by simp at hlen' ⊢; omega)
  have e1 : A ++ [e] ++ R ++ D = A ++ e :: R ++ D := by simp
  rw [e1] at this
  exact this
end Go.Proofs.Ythcnpkkpjfigeaa.V
