-- a text of this work, without what this claim doesn't use (wip/shake.py)
import Derived.Test.YtfhapffjnafkbaaTVPcmp
import Derived.Test.YtfhapffjnafkbaaTVPentry
import Derived.Test.YtfhapffjnafkbaaTVPvergerref51
import Derived.Test.YtfhapffjnafkbaaTVPentry1
import Derived.Test.YtfhapffjnafkbaaTVPslices1
import Derived.Test.YtfhapffjnafkbaaTVPslicesZ
section
set_option linter.unusedVariables false
set_option linter.unusedSimpArgs false
namespace Go.Proofs.Ytfhapffjnafkbaa.V
open Go.RowKit Go.Proofs.YtfhapffjnafkbaaW.PrintWords
abbrev E := S33
theorem E.ext' {a b : E} (h0 : a.f0 = b.f0) (h1 : a.f1 = b.f1) : a = b := by cases a; cases b; simp_all
def ltE (a b : E) : Bool := decide (a.f0 < b.f0) || (decide (a.f0 = b.f0) && decide (a.f1 < b.f1))
def leE (a b : E) : Bool := !ltE b a
theorem ltE_iff (a b : E) : ltE a b = true ↔ a.f0 < b.f0 ∨ (a.f0 = b.f0 ∧ a.f1 < b.f1) := by simp [ltE]
theorem ltE_false (a b : E) : ltE a b = false ↔ b.f0 < a.f0 ∨ (a.f0 = b.f0 ∧ b.f1 ≤ a.f1) := by
 rw [← Bool.not_eq_true, ltE_iff]; omega
theorem leE_iff (a b : E) : leE a b = true ↔ a.f0 < b.f0 ∨ (a.f0 = b.f0 ∧ a.f1 ≤ b.f1) := by
 unfold leE; rw [Bool.not_eq_true', ltE_false]; omega
theorem ltE_asymm {a b : E} (h : ltE a b = true) : ltE b a = false := by rw [ltE_iff] at h; rw [ltE_false]; omega
theorem leE_trans (a b c : E) (h : leE a b = true) (k : leE b c = true) : leE a c = true := by rw [leE_iff] at *; omega
theorem leE_total (a b : E) : (leE a b || leE b a) = true := by
 rw [Bool.or_eq_true, leE_iff, leE_iff]; omega
theorem leE_refl (a : E) : leE a a = true := by rw [leE_iff]; omega
theorem leE_antisymm {a b : E} (h : leE a b = true) (k : leE b a = true) : a = b := by
 rw [leE_iff] at h k; exact E.ext' (by omega) (by omega)
theorem ltE_of_leE_ne {a b : E} (h : leE a b = true) (hn : a ≠ b) : ltE a b = true := by
 cases hl : ltE a b with
 | true => rfl
 | false => exact absurd (leE_antisymm h (by simp [leE, hl])) hn
theorem leE_of_ltE {a b : E} (h : ltE a b = true) : leE a b = true := by simp [leE, ltE_asymm h]
theorem ltE_of_lt_le {a b c : E} (h : ltE a b = true) (k : leE b c = true) : ltE a c = true := by rw [ltE_iff] at *; rw [leE_iff] at k; omega
theorem ltE_of_le_lt {a b c : E} (h : leE a b = true) (k : ltE b c = true) : ltE a c = true := by rw [ltE_iff] at *; rw [leE_iff] at h; omega
def SortedE (l : List E) : Prop := l.Pairwise fun a b => leE a b = true
def sortE (l : List E) : List E := l.mergeSort leE
theorem sortE_perm (l : List E) : (sortE l).Perm l := List.mergeSort_perm l leE
theorem sortE_sorted (l : List E) : SortedE (sortE l) := List.pairwise_mergeSort leE_trans leE_total l
theorem sorted_eq {l m : List E} (hl : SortedE l) (hm : SortedE m) (h : l.Perm m) : l = m := h.eq_of_pairwise (fun a b _ _ h1 h2 => leE_antisymm h1 h2) hl hm
theorem sortE_eq {l m : List E} (hm : SortedE m) (h : m.Perm l) : sortE l = m := sorted_eq (sortE_sorted l) hm ((sortE_perm l).trans h.symm)
theorem sortE_of_perm {l m : List E} (h : l.Perm m) : sortE l = sortE m := sorted_eq (sortE_sorted l) (sortE_sorted m) ((sortE_perm l).trans (h.trans (sortE_perm m).symm))
theorem sortE_of_sorted {l : List E} (h : SortedE l) : sortE l = l := sortE_eq h (List.Perm.refl _)
theorem sortE_length (l : List E) : (sortE l).length = l.length := (sortE_perm l).length_eq
theorem sortE_nil : sortE [] = [] := by simp [sortE]
theorem sortE_mem {l : List E} {x : E} : x ∈ sortE l ↔ x ∈ l := (sortE_perm l).mem_iff
theorem sorted_nil : SortedE [] := List.Pairwise.nil
theorem sorted_append {l m : List E} : SortedE (l ++ m) ↔ SortedE l ∧ SortedE m ∧ ∀ a ∈ l, ∀ b ∈ m, leE a b = true := List.pairwise_append
theorem sorted_cons {a : E} {l : List E} : SortedE (a :: l) ↔ (∀ b ∈ l, leE a b = true) ∧ SortedE l := List.pairwise_cons
theorem sorted_take {l : List E} (h : SortedE l) (n : Nat) : SortedE (l.take n) := h.sublist (List.take_sublist n l)
theorem sorted_get {l : List E} (h : SortedE l) {i j : Nat} (hij : i < j) {a b : E} (ha : l[i]? = some a) (hb : l[j]? = some b) : leE a b = true := by
 obtain ⟨hi, rfl⟩ := List.getElem?_eq_some_iff.1 ha
 obtain ⟨hj, rfl⟩ := List.getElem?_eq_some_iff.1 hb
 exact List.pairwise_iff_getElem.1 h i j hi hj hij
def putE (l : List E) (e : E) : List E := (l.takeWhile fun x => leE x e) ++ e :: (l.dropWhile fun x => leE x e)
theorem putE_perm (l : List E) (e : E) : (putE l e).Perm (e :: l) := by
 unfold putE
 refine List.perm_middle.trans (List.Perm.cons _ ?_)
 rw [List.takeWhile_append_dropWhile]
theorem takeWhile_mem (l : List E) (p : E → Bool) : ∀ a ∈ l.takeWhile p, p a = true := by
 induction l with
 | nil => simp
 | cons b l ih =>
  intro a ha
  rw [List.takeWhile_cons] at ha
  split at ha
  · rename_i hb
    rcases List.mem_cons.1 ha with rfl | ha
    · exact hb
    · exact ih a ha
  · simp at ha
theorem dropWhile_gt {l : List E} (h : SortedE l) (e : E) : ∀ x ∈ l.dropWhile (fun x => leE x e), ltE e x = true := by
 induction l with
 | nil => simp
 | cons a l ih =>
  obtain ⟨h1, h2⟩ := sorted_cons.1 h
  rw [List.dropWhile_cons]
  split
  · exact ih h2
  · rename_i hn
    have hl : ltE e a = true := by simpa [leE] using hn
    intro x hx
    rcases List.mem_cons.1 hx with rfl | hx
    · exact hl
    · exact ltE_of_lt_le hl (h1 x hx)
theorem putE_sorted {l : List E} (h : SortedE l) (e : E) : SortedE (putE l e) := by
 unfold putE
 have hsub : SortedE (l.takeWhile fun x => leE x e) := h.sublist (List.takeWhile_sublist _)
 have hd : SortedE (l.dropWhile fun x => leE x e) := h.sublist (List.dropWhile_sublist _)
 have hle : ∀ a ∈ l.takeWhile (fun x => leE x e), leE a e = true := takeWhile_mem l _
 have hgt := dropWhile_gt h e
 refine sorted_append.2 ⟨hsub, sorted_cons.2 ⟨fun b hb => leE_of_ltE (hgt b hb), hd⟩, fun a ha b hb => ?_⟩
 rcases List.mem_cons.1 hb with rfl | hb
 · exact hle a ha
 · exact leE_trans _ _ _ (hle a ha) (leE_of_ltE (hgt b hb))
theorem putE_length (l : List E) (e : E) : (putE l e).length = l.length + 1 := by rw [(putE_perm l e).length_eq]; rfl
def placeE (l : List E) (e : E) : Nat := l.countP fun x => ltE x e
theorem placeE_le (l : List E) (e : E) : placeE l e ≤ l.length := List.countP_le_length
theorem placeE_sorted {l : List E} (h : SortedE l) (e : E) : ∀ (i : Nat) (a : E), l[i]? = some a → (ltE a e = true ↔ i < placeE l e) := by
 induction l with
 | nil => simp
 | cons b l ih =>
  obtain ⟨h1, h2⟩ := sorted_cons.1 h
  intro i a ha
  unfold placeE
  rw [List.countP_cons]
  cases i with
  | zero =>
   have : b = a := by simpa using ha
   subst this
   cases hb : ltE b e with
   | true => simp
   | false =>
    simp only [Bool.false_eq_true, if_false, Nat.add_zero, false_iff, Nat.not_lt]
    rw [Nat.le_zero, List.countP_eq_zero]
    intro x hx
    have := h1 x hx
    intro hlt
    rw [ltE_of_le_lt this hlt] at hb
    cases hb
  | succ i =>
   have ha' : l[i]? = some a := by simpa using ha
   have hm : a ∈ l := List.mem_of_getElem? ha'
   have hba := h1 a hm
   rw [ih h2 i a ha']
   unfold placeE
   cases hb : ltE b e with
   | true => simp
   | false =>
    have h0 : List.countP (fun x => ltE x e) l = 0 := by
     rw [List.countP_eq_zero]
     intro x hx hlt
     rw [ltE_of_le_lt (h1 x hx) hlt] at hb
     cases hb
    rw [h0]; simp
end Go.Proofs.Ytfhapffjnafkbaa.V
end
section
set_option linter.unusedVariables false
set_option linter.unusedSimpArgs false
namespace Go.Proofs.Ytfhapffjnafkbaa.V
open Go.RowKit Go.Proofs.YtfhapffjnafkbaaW.PrintWords Go.Proofs.YtfhapffjnafkbaaW.PrintLast Go.Proofs.YtfhapffjnafkbaaW.PrintMore
theorem wrap_id {i : Int} (h0 : -9223372036854775808 ≤ i) (h1 : i ≤ 9223372036854775807) : wrap64 i = i := by unfold wrap64; omega
theorem wrap_nat {n : Nat} (h : n ≤ 4611686018427387904) : wrap64 ((n : Int) + 1) = ((n + 1 : Nat) : Int) := by rw [wrap_id (by omega) (by omega)]; omega
theorem rd_nat (l : List E) (i : Nat) : rd_T33 l (i : Int) = l.getD i z33 := by unfold rd_T33; rw [Int.toNat_natCast]
theorem rd_get {l : List E} {i : Nat} (h : i < l.length) : rd_T33 l (i : Int) = l[i] := by rw [rd_nat]; simp [List.getD_eq_getElem?_getD, List.getElem?_eq_getElem h]
theorem succ_of {k n : Nat} (h : n < k) : ∃ m, k = m + 1 ∧ n ≤ m := ⟨k - 1, by omega, by omega⟩
def cmpE (a b : E) : Int := if ltE a b = true then -1 else if ltE b a = true then 1 else 0
theorem cmpE_neg (a b : E) : cmpE a b < 0 ↔ ltE a b = true := by
 unfold cmpE
 split
 · simp_all
 · split <;> simp_all
theorem cmpE_pos (a b : E) : 0 < cmpE a b ↔ ltE b a = true := by
 unfold cmpE
 split
 · rename_i h
   rw [ltE_asymm h]
   simp
 · split <;> simp_all
theorem compare_u (a b : Int) : cmp_Compare_uint64.f a b = some (if a < b then -1 else if a > b then 1 else 0) := by
 simp only [cmp_Compare_uint64.f, cmp_isNaN_uint64.f, Option.bind_some, bne_self_eq_false, Bool.false_eq_true, if_false]
 by_cases h1 : a < b
 · simp [h1]
 · by_cases h2 : a > b <;> simp [h1, h2]
theorem compare_i (a b : Int) : cmp_Compare_int.f a b = some (if a < b then -1 else if a > b then 1 else 0) := by
 simp only [cmp_Compare_int.f, cmp_isNaN_int.f, Option.bind_some, bne_self_eq_false, Bool.false_eq_true, if_false]
 by_cases h1 : a < b
 · simp [h1]
 · by_cases h2 : a > b <;> simp [h1, h2]
theorem or_two (k : Nat) (hk : 3 ≤ k) (x y : Int) : cmp_Or_int.f k [x, y] = some (if x = 0 then y else x) := by
 obtain ⟨k, rfl⟩ : ∃ m, k = m + 3 := ⟨k - 3, by omega⟩
 unfold cmp_Or_int.f
 have e1 : wrap64 (0 + 1) = 1 := wrap_id (by omega) (by omega)
 have e2 : wrap64 (1 + 1) = 2 := wrap_id (by omega) (by omega)
 have r0 : rd [x, y] 0 = x := rfl
 have r1 : rd [x, y] 1 = y := rfl
 simp only [cmp_Or_int.l0, List.length_cons, List.length_nil]
 rw [if_pos (by decide), if_pos (by decide), if_pos (by decide), r0]
 by_cases hx : x = 0
 · rw [if_pos hx, e1, if_pos (by decide), if_pos (by decide), if_pos (by decide), r1]
   by_cases hy : y = 0
   · rw [if_pos hy, e2, if_neg (by decide), if_pos hx, hy]
   · rw [if_neg hy, if_pos hx]
 · rw [if_neg hx, if_neg hx]
theorem compare_told (k : Nat) (hk : 3 ≤ k) (a b c d : Int) : entry_compare.f k a b c d = some (cmpE ⟨a, b⟩ ⟨c, d⟩) := by
 unfold entry_compare.f
 rw [compare_u, compare_i]
 simp only [Option.bind_some]
 rw [or_two k hk]
 simp only [Option.bind_some]
 congr 1
 unfold cmpE
 simp only [ltE, Bool.or_eq_true, Bool.and_eq_true, decide_eq_true_eq]
 by_cases h1 : a < c
 · simp [h1]
 · by_cases h2 : a > c
   · have h3 : ¬ a = c := by omega
     have h4 : c < a := h2
     simp [h1, h2, h3, h4]
   · have h3 : a = c := by omega
     subst h3
     by_cases h5 : b < d
     · simp [h5]
     · by_cases h6 : b > d
       · have h7 : d < b := h6
         simp [h5, h6, h7]
       · have h7 : ¬ d < b := h6
         simp [h5, h6, h7]
theorem putE_at {l : List E} {e : E} {i : Nat} (hi : i ≤ l.length) (hbefore : ∀ j a, j < i → l[j]? = some a → ltE e a = false) (hat : ∀ a, l[i]? = some a → ltE e a = true) : putE l e = l.take i ++ e :: l.drop i := by
 induction l generalizing i with
 | nil => simp at hi; subst hi; simp [putE]
 | cons b l ih =>
  cases i with
  | zero =>
   have := hat b rfl
   simp [putE, leE, this]
  | succ i =>
   have hb := hbefore 0 b (by omega) rfl
   have := ih (i := i) (by simpa using hi) (fun j a hj ha => hbefore (j + 1) a (by omega) ha) (fun a ha => hat a ha)
   unfold putE at this ⊢
   simp only [List.takeWhile_cons, List.dropWhile_cons, leE, hb, Bool.not_false, if_true, List.take_succ_cons, List.drop_succ_cons, List.cons_append]
   exact congrArg (b :: ·) this
end Go.Proofs.Ytfhapffjnafkbaa.V
end
section
set_option linter.unusedVariables false
set_option linter.unusedSimpArgs false
namespace Go.Proofs.Ytfhapffjnafkbaa.V
open Go.RowKit Go.Proofs.YtfhapffjnafkbaaW.PrintWords Go.Proofs.YtfhapffjnafkbaaW.PrintLast Go.Proofs.YtfhapffjnafkbaaW.PrintMore
theorem u64_wrap_id {i : Int} (h0 : 0 ≤ i) (h1 : i < 18446744073709551616) : IntKind.u64.wrap i = i := by
 simp [IntKind.wrap, IntKind.bits, IntKind.signed]; omega
theorem wadd {a b : Nat} (h : a + b < 4611686018427387904) : wrap64 ((a : Int) + (b : Int)) = ((a + b : Nat) : Int) := by rw [wrap_id (by omega) (by omega)]; omega
theorem wsub {a b : Nat} (h : b ≤ a) (h2 : a < 4611686018427387904) : wrap64 ((a : Int) - (b : Int)) = ((a - b : Nat) : Int) := by rw [wrap_id (by omega) (by omega)]; omega
theorem wsub1 {a : Nat} (h : 0 < a) (h2 : a < 4611686018427387904) : wrap64 ((a : Int) - 1) = ((a - 1 : Nat) : Int) := by rw [wrap_id (by omega) (by omega)]; omega
theorem whalf {a b : Nat} (h : a + b < 4611686018427387904) : wrap64 ((IntKind.u64.wrap (wrap64 ((a : Int) + (b : Int)))) / 2) = (((a + b) / 2 : Nat) : Int) := by
 rw [wadd h, u64_wrap_id (by omega) (by omega), wrap_id (by omega) (by omega)]; omega
theorem sortcmp_ev (x y : E) : Ev (fun k => entry_Sort_1.f k x.f0 x.f1 y.f0 y.f1) (cmpE x y) := ⟨3, fun k hk => by show entry_Sort_1.f k x.f0 x.f1 y.f0 y.f1 = _; unfold entry_Sort_1.f; rw [compare_told k hk]; rfl⟩
theorem rd_mid (A B : List E) (x : E) : rd_T33 (A ++ x :: B) (A.length : Int) = x := by rw [rd_nat]; simp [List.getD_eq_getElem?_getD]
theorem rd_at {l A B : List E} {x : E} {i : Nat} (hl : l = A ++ x :: B) (hi : i = A.length) : rd_T33 l (i : Int) = x := by subst hl; subst hi; exact rd_mid A B x
theorem set_mid (A B : List E) (x y : E) : (A ++ x :: B).set A.length y = A ++ y :: B := by simp
theorem swap_next (A B : List E) (x y : E) : ((A ++ x :: y :: B).set (A.length + 1) x).set A.length y = A ++ y :: x :: B := by
 simp [List.set_append]
theorem swap_next' (A B : List E) (x y : E) : ((A ++ x :: y :: B).set A.length y).set (A.length + 1) x = A ++ y :: x :: B := by
 simp [List.set_append]
theorem eta (x : E) : (⟨x.f0, x.f1⟩ : E) = x := rfl
theorem rev_ind {P : List E → Prop} (h0 : P []) (h1 : ∀ S s, P S → P (S ++ [s])) : ∀ S, P S := by
 intro S
 rw [← S.reverse_reverse]
 induction S.reverse with
 | nil => exact h0
 | cons s T ih => rw [List.reverse_cons]; exact h1 _ _ ih
theorem ins_inner (A : List E) (a b i : Nat) (ha : a = A.length) (r : List E) : ∀ (S : List E) (e : E) (T D : List E), SortedE S → (A ++ S ++ e :: T ++ D).length < 1000000000 → i < 1000000000 →
 (∀ s ∈ S, ∀ t ∈ T, leE s t = true) → (∀ t ∈ T, ltE e t = true) → SortedE T →
 Ev (fun k => api_Entry_66.l0 k (A ++ sortE (S ++ e :: T) ++ D) (a : Int) (b : Int) (wrap64 ((i : Int) + 1))) r →
 Ev (fun k => api_Entry_66.l1 k (A ++ S ++ e :: T ++ D) (a : Int) (b : Int) (i : Int) ((A ++ S).length : Int)) r := by
 intro S
 induction S using rev_ind with
 | h0 =>
  intro e T D hS hlen hi hST hT hTs hk
  refine Ev.step (fun k => by simp only [api_Entry_66.l1]; exact rfl) ?_
  have h0 : ¬ (((A ++ []).length : Nat) : Int) > (a : Int) := by simp; omega
  simp only [if_neg h0]
  have hs : sortE ([] ++ e :: T) = e :: T := sortE_of_sorted (sorted_cons.2 ⟨fun t ht => leE_of_ltE (hT t ht), hTs⟩)
  rw [hs] at hk
  simpa using hk
 | h1 S s ih =>
  intro e T D hS hlen hi hST hT hTs hk
  have hlen' := hlen
  simp only [List.length_append, List.length_cons, List.length_nil] at hlen'
  obtain ⟨hS1, _, hS2⟩ := sorted_append.1 hS
  refine Ev.step (fun k => by simp only [api_Entry_66.l1]; exact rfl) ?_
  have hj : (((A ++ (S ++ [s])).length : Nat) : Int) = ((A.length + S.length + 1 : Nat) : Int) := by simp; omega
  have hw : wrap64 ((((A.length + S.length + 1 : Nat) : Int)) - 1) = ((A.length + S.length : Nat) : Int) := by rw [wsub1 (by omega) (by omega)]; rfl
  have hlE : A ++ (S ++ [s]) ++ e :: T ++ D = (A ++ S) ++ s :: e :: (T ++ D) := by simp
  have r1 : rd_T33 (A ++ (S ++ [s]) ++ e :: T ++ D) ((A.length + S.length + 1 : Nat) : Int) = e := rd_at (A := A ++ S ++ [s]) (B := T ++ D) (by simp) (by simp; omega)
  have r2 : rd_T33 (A ++ (S ++ [s]) ++ e :: T ++ D) ((A.length + S.length : Nat) : Int) = s := rd_at (A := A ++ S) (B := e :: (T ++ D)) (by simp) (by simp)
  have c1 : ((A.length + S.length + 1 : Nat) : Int) > (a : Int) := by omega
  have c2 : (0 : Int) ≤ ((A.length + S.length + 1 : Nat) : Int) := by omega
  have c3 : ((A.length + S.length + 1 : Nat) : Int) < ((A ++ (S ++ [s]) ++ e :: T ++ D).length : Int) := by simp; omega
  have c4 : (0 : Int) ≤ ((A.length + S.length : Nat) : Int) := by omega
  have c5 : ((A.length + S.length : Nat) : Int) < ((A ++ (S ++ [s]) ++ e :: T ++ D).length : Int) := by simp; omega
  rw [hj]
  simp only [hw, if_pos c1, if_pos c2, if_pos c3, if_pos c4, if_pos c5, r1, r2, Int.toNat_natCast]
  refine Ev.bind (sortcmp_ev e s) ?_
  cases hlt : ltE e s with
  | true =>
   have hn : cmpE e s < 0 := (cmpE_neg e s).2 hlt
   simp only [if_pos hn, eta]
   have hsw : ((A ++ (S ++ [s]) ++ e :: T ++ D).set (A.length + S.length + 1) s).set (A.length + S.length) e = A ++ S ++ e :: (s :: T) ++ D := by
    rw [hlE]
    have := swap_next (A ++ S) (T ++ D) s e
    rw [List.length_append] at this
    rw [this]; simp
   rw [hsw]
   have hlen2 : (A ++ S ++ e :: (s :: T) ++ D).length < 1000000000 := by simp; omega
   have hST' : ∀ x ∈ S, ∀ t ∈ s :: T, leE x t = true := fun x hx t ht => by
    rcases List.mem_cons.1 ht with rfl | ht
    · exact hS2 x hx _ (by simp)
    · exact hST x (by simp [hx]) t ht
   have hT' : ∀ t ∈ s :: T, ltE e t = true := fun t ht => by
    rcases List.mem_cons.1 ht with rfl | ht
    · exact hlt
    · exact hT t ht
   have hTs' : SortedE (s :: T) := sorted_cons.2 ⟨fun t ht => hST s (by simp) t ht, hTs⟩
   have hp : sortE (S ++ [s] ++ e :: T) = sortE (S ++ e :: (s :: T)) := sortE_of_perm (by
    rw [List.append_assoc]
    exact List.Perm.append_left S (List.Perm.swap e s T))
   rw [hp] at hk
   have := ih e (s :: T) D hS1 hlen2 hi hST' hT' hTs' hk
   rw [List.length_append] at this
   exact this
  | false =>
   have hn : ¬ cmpE e s < 0 := fun h => by rw [(cmpE_neg e s).1 h] at hlt; cases hlt
   simp only [if_neg hn]
   have hle : leE s e = true := by simp [leE, hlt]
   have hso : SortedE (S ++ [s] ++ e :: T) := by
    refine sorted_append.2 ⟨hS, sorted_cons.2 ⟨fun t ht => leE_of_ltE (hT t ht), hTs⟩, fun x hx t ht => ?_⟩
    rcases List.mem_cons.1 ht with rfl | ht
    · rcases List.mem_append.1 hx with hx | hx
      · exact leE_trans _ _ _ (hS2 x hx s (by simp)) hle
      · rw [List.mem_singleton.1 hx]; exact hle
    · exact hST x hx t ht
   rw [sortE_of_sorted hso] at hk
   simpa using hk
theorem ins_outer (A : List E) (a b : Nat) (ha : a = A.length) (D : List E) : ∀ (R S : List E), SortedE S → b = a + S.length + R.length → (A ++ S ++ R ++ D).length < 1000000000 →
 Ev (fun k => api_Entry_66.l0 k (A ++ S ++ R ++ D) (a : Int) (b : Int) ((a + S.length : Nat) : Int)) (A ++ sortE (S ++ R) ++ D) := by
 intro R
 induction R with
 | nil =>
  intro S hS hb hlen
  refine Ev.step (fun k => by simp only [api_Entry_66.l0]; exact rfl) ?_
  have h0 : ¬ ((a + S.length : Nat) : Int) < (b : Int) := by simp at hb; omega
  simp only [if_neg h0]
  rw [List.append_nil, List.append_nil, sortE_of_sorted hS]
  exact Ev.now _
 | cons e R ih =>
  intro S hS hb hlen
  have hlen' := hlen
  simp only [List.length_append, List.length_cons] at hlen' hb
  refine Ev.step (fun k => by simp only [api_Entry_66.l0]; exact rfl) ?_
  have h0 : ((a + S.length : Nat) : Int) < (b : Int) := by omega
  simp only [if_pos h0]
  have hin := ins_inner A a b (a + S.length) ha (A ++ sortE (S ++ e :: R) ++ D) S e [] (R ++ D) hS (by simp; omega) (by omega) (by simp) (by simp) sorted_nil (by
   rw [wrap_nat (by omega)]
   have hl := sortE_length (S ++ [e])
   have := ih (sortE (S ++ [e])) (sortE_sorted _) (by rw [hl]; simp; omega) (by simp [hl]; omega)
   rw [hl] at this
   have hp : sortE (sortE (S ++ [e]) ++ R) = sortE (S ++ e :: R) := sortE_of_perm (by
    have := List.Perm.append_right R (sortE_perm (S ++ [e]))
    rwa [List.append_assoc S [e] R] at this)
   rw [hp] at this
   have e1 : a + (S ++ [e]).length = a + S.length + 1 := by simp; omega
   rw [e1] at this
   have e2 : A ++ sortE (S ++ [e]) ++ R ++ D = A ++ sortE (S ++ [e]) ++ (R ++ D) := by simp
   rw [e2] at this
   exact this)
  have e3 : A ++ S ++ e :: [] ++ (R ++ D) = A ++ S ++ e :: R ++ D := by simp
  rw [e3] at hin
  have e4 : (((A ++ S).length : Nat) : Int) = ((a + S.length : Nat) : Int) := by rw [List.length_append, ha]
  rw [e4] at hin
  exact hin
theorem ins_told (A X D : List E) (hlen : (A ++ X ++ D).length < 1000000000) : Ev (fun k => api_Entry_66.f k (A ++ X ++ D) (A.length : Int) ((A.length + X.length : Nat) : Int)) (A ++ sortE X ++ D) := by
 have hlen' := hlen
 simp only [List.length_append] at hlen'
 unfold api_Entry_66.f
 cases X with
 | nil =>
  refine Ev.step (fun k => by simp only [api_Entry_66.l0]; exact rfl) ?_
  have h0 : ¬ wrap64 ((A.length : Int) + 1) < ((A.length + ([] : List E).length : Nat) : Int) := by rw [wrap_nat (by omega)]; simp; omega
  simp only [if_neg h0, sortE_nil]
  exact Ev.now _
 | cons e R =>
  rw [wrap_nat (by omega)]
  have := ins_outer A A.length (A.length + (e :: R).length) rfl D R [e] (List.pairwise_singleton _ _) (by simp; omega) (by simp at hlen' ⊢; omega)
  have e1 : A ++ [e] ++ R ++ D = A ++ e :: R ++ D := by simp
  rw [e1] at this
  exact this
end Go.Proofs.Ytfhapffjnafkbaa.V
end
section
set_option linter.unusedVariables false
set_option linter.unusedSimpArgs false
namespace Go.Proofs.Ytfhapffjnafkbaa.V
open Go.RowKit Go.Proofs.YtfhapffjnafkbaaW.PrintWords Go.Proofs.YtfhapffjnafkbaaW.PrintLast Go.Proofs.YtfhapffjnafkbaaW.PrintMore
theorem swap_far (P Q R : List E) (x y : E) : ((P ++ x :: Q ++ y :: R).set P.length y).set (P.length + 1 + Q.length) x = P ++ y :: Q ++ x :: R := by
 have e1 : (P ++ x :: Q ++ y :: R).set P.length y = P ++ y :: Q ++ y :: R := by
  rw [List.append_assoc, List.cons_append, set_mid, List.append_assoc, List.cons_append]
 rw [e1]
 have e2 : P.length + 1 + Q.length = (P ++ y :: Q).length := by simp; omega
 rw [e2, set_mid]
theorem swr_loop (A B C : List E) (a b n : Nat) : ∀ (X2 Y2 X1 Y1 : List E), X2.length = Y2.length → X1.length = Y1.length → a = A.length → b = A.length + X1.length + X2.length + B.length → n = X1.length + X2.length →
 (A ++ Y1 ++ X2 ++ B ++ X1 ++ Y2 ++ C).length < 1000000000 →
 Ev (fun k => api_Entry_71.l0 k (A ++ Y1 ++ X2 ++ B ++ X1 ++ Y2 ++ C) (a : Int) (b : Int) (n : Int) ((X1.length : Nat) : Int)) (A ++ (Y1 ++ Y2) ++ B ++ (X1 ++ X2) ++ C) := by
 intro X2
 induction X2 with
 | nil =>
  intro Y2 X1 Y1 h1 h2 ha hb hn hlen
  have : Y2 = [] := List.eq_nil_of_length_eq_zero h1.symm
  subst this
  refine Ev.step (fun k => by simp only [api_Entry_71.l0]; exact rfl) ?_
  have h0 : ¬ ((X1.length : Nat) : Int) < (n : Int) := by simp at hn; omega
  simp only [if_neg h0]
  have e : A ++ Y1 ++ [] ++ B ++ X1 ++ [] ++ C = A ++ (Y1 ++ []) ++ B ++ (X1 ++ []) ++ C := by simp
  rw [e]
  exact Ev.now _
 | cons x X2 ih =>
  intro Y2 X1 Y1 h1 h2 ha hb hn hlen
  cases Y2 with
  | nil => simp at h1
  | cons y Y2 =>
   have hlen' := hlen
   simp only [List.length_append, List.length_cons] at hlen' h1 hb hn
   clear hlen
   refine Ev.step (fun k => by simp only [api_Entry_71.l0]; exact rfl) ?_
   have h0 : ((X1.length : Nat) : Int) < (n : Int) := by omega
   have b1 : b + X1.length < 4611686018427387904 := by omega
   have b2 : a + X1.length < 4611686018427387904 := by omega
   have hE : A ++ Y1 ++ x :: X2 ++ B ++ X1 ++ y :: Y2 ++ C = (A ++ Y1) ++ x :: (X2 ++ B ++ X1) ++ y :: (Y2 ++ C) := by simp
   have r1 : rd_T33 (A ++ Y1 ++ x :: X2 ++ B ++ X1 ++ y :: Y2 ++ C) ((b + X1.length : Nat) : Int) = y := rd_at (A := (A ++ Y1) ++ x :: (X2 ++ B ++ X1)) (B := Y2 ++ C) (by rw [hE]) (by simp; omega)
   have r2 : rd_T33 (A ++ Y1 ++ x :: X2 ++ B ++ X1 ++ y :: Y2 ++ C) ((a + X1.length : Nat) : Int) = x := rd_at (A := A ++ Y1) (B := (X2 ++ B ++ X1) ++ y :: (Y2 ++ C)) (by rw [hE]; simp) (by simp; omega)
   have c1 : (0 : Int) ≤ ((b + X1.length : Nat) : Int) := by omega
   have c2 : ((b + X1.length : Nat) : Int) < ((A ++ Y1 ++ x :: X2 ++ B ++ X1 ++ y :: Y2 ++ C).length : Int) := by simp; omega
   have c3 : (0 : Int) ≤ ((a + X1.length : Nat) : Int) := by omega
   have c4 : ((a + X1.length : Nat) : Int) < ((A ++ Y1 ++ x :: X2 ++ B ++ X1 ++ y :: Y2 ++ C).length : Int) := by simp; omega
   simp only [wadd b1, wadd b2, if_pos h0, if_pos c1, if_pos c2, if_pos c3, if_pos c4, r1, r2, Int.toNat_natCast, eta]
   have hsw : ((A ++ Y1 ++ x :: X2 ++ B ++ X1 ++ y :: Y2 ++ C).set (a + X1.length) y).set (b + X1.length) x = A ++ (Y1 ++ [y]) ++ X2 ++ B ++ (X1 ++ [x]) ++ Y2 ++ C := by
    rw [hE]
    have e1 : a + X1.length = (A ++ Y1).length := by simp; omega
    have e2 : b + X1.length = (A ++ Y1).length + 1 + (X2 ++ B ++ X1).length := by simp; omega
    rw [e2, e1, swap_far]; simp
   rw [hsw, wrap_nat (by omega)]
   have := ih Y2 (X1 ++ [x]) (Y1 ++ [y]) (by omega) (by simp; omega) ha (by simp; omega) (by simp; omega) (by simp; omega)
   have e3 : (X1 ++ [x]).length = X1.length + 1 := by simp
   rw [e3] at this
   have e4 : A ++ (Y1 ++ [y] ++ Y2) ++ B ++ (X1 ++ [x] ++ X2) ++ C = A ++ (Y1 ++ y :: Y2) ++ B ++ (X1 ++ x :: X2) ++ C := by simp
   rw [e4] at this
   exact this
theorem swr_told (A X B Y C : List E) (h : X.length = Y.length) (hlen : (A ++ X ++ B ++ Y ++ C).length < 1000000000) :
 Ev (fun k => api_Entry_71.f k (A ++ X ++ B ++ Y ++ C) ((A.length : Nat) : Int) ((A.length + X.length + B.length : Nat) : Int) ((X.length : Nat) : Int)) (A ++ Y ++ B ++ X ++ C) := by
 unfold api_Entry_71.f
 have := swr_loop A B C A.length (A.length + X.length + B.length) X.length X Y [] [] h rfl rfl (by simp) (by simp) (by simpa using hlen)
 simpa using this
theorem rot_loop : ∀ (n : Nat) (A U V C : List E), U.length + V.length = n → 0 < U.length → 0 < V.length → (A ++ U ++ V ++ C).length < 1000000000 →
 Ev (fun k => api_Entry_69.l0 k (A ++ U ++ V ++ C) ((A.length + U.length : Nat) : Int) ((U.length : Nat) : Int) ((V.length : Nat) : Int)) (A ++ V ++ U ++ C) := by
 intro n
 induction n using Nat.strongRecOn with
 | _ n ih =>
  intro A U V C hn hU hV hlen
  have hlen' := hlen
  simp only [List.length_append] at hlen'
  refine Ev.step (fun k => by simp only [api_Entry_69.l0]; exact rfl) ?_
  simp only [wsub (show U.length ≤ A.length + U.length by omega) (show A.length + U.length < 4611686018427387904 by omega), show A.length + U.length - U.length = A.length by omega]
  by_cases h1 : U.length = V.length
  · have c1 : ((U.length : Nat) : Int) = ((V.length : Nat) : Int) := by omega
    simp only [if_pos c1]
    have := swr_told A U [] V C h1 (by simpa using hlen)
    refine Ev.bind (a := A ++ V ++ U ++ C) ?_ (Ev.now _)
    simpa using this
  · have c1 : ¬ ((U.length : Nat) : Int) = ((V.length : Nat) : Int) := by omega
    simp only [if_neg c1]
    by_cases h2 : V.length < U.length
    · have c2 : ((U.length : Nat) : Int) > ((V.length : Nat) : Int) := by omega
      simp only [if_pos c2]
      obtain ⟨U1, U2, rfl, hU1⟩ : ∃ U1 U2, U = U1 ++ U2 ∧ U1.length = V.length := ⟨U.take V.length, U.drop V.length, (List.take_append_drop _ _).symm, by rw [List.length_take]; omega⟩
      simp only [List.length_append] at h2 hlen' hn hU
      have hs := swr_told A U1 U2 V C hU1 (by simp; omega)
      have e1 : ((A.length + U1.length + U2.length : Nat) : Int) = ((A.length + (U1 ++ U2).length : Nat) : Int) := by simp; omega
      rw [e1, hU1] at hs
      have e2 : A ++ U1 ++ U2 ++ V ++ C = A ++ (U1 ++ U2) ++ V ++ C := by simp
      rw [e2] at hs
      refine Ev.bind hs ?_
      simp only [wsub (show V.length ≤ (U1 ++ U2).length by simp; omega) (show (U1 ++ U2).length < 4611686018427387904 by simp; omega), show (U1 ++ U2).length - V.length = U2.length by simp; omega]
      have := ih (U2.length + U1.length) (by omega) (A ++ V) U2 U1 C rfl (by omega) (by omega) (by simp; omega)
      have e3 : (((A ++ V).length + U2.length : Nat) : Int) = ((A.length + (U1 ++ U2).length : Nat) : Int) := by simp; omega
      rw [e3, hU1] at this
      have e4 : A ++ V ++ U1 ++ U2 ++ C = A ++ V ++ (U1 ++ U2) ++ C := by simp
      rw [e4] at this
      exact this
    · have c2 : ¬ ((U.length : Nat) : Int) > ((V.length : Nat) : Int) := by omega
      simp only [if_neg c2]
      obtain ⟨V1, V2, rfl, hV2⟩ : ∃ V1 V2, V = V1 ++ V2 ∧ V2.length = U.length := ⟨V.take (V.length - U.length), V.drop (V.length - U.length), (List.take_append_drop _ _).symm, by rw [List.length_drop]; omega⟩
      simp only [List.length_append] at h1 h2 hlen' hn hV
      have hs := swr_told A U V1 V2 C hV2.symm (by simp; omega)
      simp only [wadd (show A.length + U.length + (V1 ++ V2).length < 4611686018427387904 by simp; omega), wsub (show U.length ≤ A.length + U.length + (V1 ++ V2).length by simp; omega) (show A.length + U.length + (V1 ++ V2).length < 4611686018427387904 by simp; omega), show A.length + U.length + (V1 ++ V2).length - U.length = A.length + U.length + V1.length by simp; omega]
      have e2 : A ++ U ++ V1 ++ V2 ++ C = A ++ U ++ (V1 ++ V2) ++ C := by simp
      rw [e2] at hs
      refine Ev.bind hs ?_
      simp only [wsub (show U.length ≤ (V1 ++ V2).length by simp; omega) (show (V1 ++ V2).length < 4611686018427387904 by simp; omega), show (V1 ++ V2).length - U.length = V1.length by simp; omega]
      have := ih (V2.length + V1.length) (by omega) A V2 V1 (U ++ C) rfl (by omega) (by omega) (by simp; omega)
      rw [hV2] at this
      have e3 : A ++ V2 ++ V1 ++ (U ++ C) = A ++ V2 ++ V1 ++ U ++ C := by simp
      have e4 : A ++ V1 ++ V2 ++ (U ++ C) = A ++ (V1 ++ V2) ++ U ++ C := by simp
      rw [e3, e4] at this
      exact this
theorem rot_told (A U V C : List E) (hU : 0 < U.length) (hV : 0 < V.length) (hlen : (A ++ U ++ V ++ C).length < 1000000000) :
 Ev (fun k => api_Entry_69.f k (A ++ U ++ V ++ C) ((A.length : Nat) : Int) ((A.length + U.length : Nat) : Int) ((A.length + U.length + V.length : Nat) : Int)) (A ++ V ++ U ++ C) := by
 have hlen' := hlen
 simp only [List.length_append] at hlen'
 unfold api_Entry_69.f
 simp only [wsub (show A.length ≤ A.length + U.length by omega) (show A.length + U.length < 4611686018427387904 by omega), show A.length + U.length - A.length = U.length by omega, wsub (show A.length + U.length ≤ A.length + U.length + V.length by omega) (show A.length + U.length + V.length < 4611686018427387904 by omega), show A.length + U.length + V.length - (A.length + U.length) = V.length by omega]
 exact rot_loop _ A U V C rfl hU hV hlen
theorem bub_right (A : List E) (x : E) (C : List E) (a i : Nat) : ∀ (Q P : List E), a = A.length + P.length → i = A.length + P.length + 1 + Q.length → (A ++ P ++ x :: Q ++ C).length < 1000000000 →
 Ev (fun k => api_Entry_67.l1 k (A ++ P ++ x :: Q ++ C) (i : Int) (a : Int)) (A ++ P ++ Q ++ x :: C) := by
 intro Q
 induction Q generalizing a with
 | nil =>
  intro P ha hi hlen
  have hlen' := hlen
  simp only [List.length_append, List.length_cons, List.length_nil] at hlen' hi
  refine Ev.step (fun k => by simp only [api_Entry_67.l1]; exact rfl) ?_
  have p0 : 0 < i := by omega
  have p1 : i < 4611686018427387904 := by omega
  have c : ¬ (a : Int) < ((i - 1 : Nat) : Int) := by omega
  simp only [wsub1 p0 p1, if_neg c]
  have e : A ++ P ++ x :: [] ++ C = A ++ P ++ [] ++ x :: C := by simp
  rw [e]
  exact Ev.now _
 | cons q Q ih =>
  intro P ha hi hlen
  have hlen' := hlen
  simp only [List.length_append, List.length_cons] at hlen' hi
  refine Ev.step (fun k => by simp only [api_Entry_67.l1]; exact rfl) ?_
  have p0 : 0 < i := by omega
  have p1 : i < 4611686018427387904 := by omega
  have p2 : a ≤ 4611686018427387904 := by omega
  have c : (a : Int) < ((i - 1 : Nat) : Int) := by omega
  have hE : A ++ P ++ x :: q :: Q ++ C = (A ++ P) ++ x :: q :: (Q ++ C) := by simp
  have r1 : rd_T33 (A ++ P ++ x :: q :: Q ++ C) ((a + 1 : Nat) : Int) = q := rd_at (A := A ++ P ++ [x]) (B := Q ++ C) (by simp) (by simp; omega)
  have r2 : rd_T33 (A ++ P ++ x :: q :: Q ++ C) (a : Int) = x := rd_at (A := A ++ P) (B := q :: (Q ++ C)) (by simp) (by simp; omega)
  have c1 : (0 : Int) ≤ ((a + 1 : Nat) : Int) := by omega
  have c2 : ((a + 1 : Nat) : Int) < ((A ++ P ++ x :: q :: Q ++ C).length : Int) := by simp; omega
  have c3 : (0 : Int) ≤ (a : Int) := by omega
  have c4 : (a : Int) < ((A ++ P ++ x :: q :: Q ++ C).length : Int) := by simp; omega
  simp only [wsub1 p0 p1, wrap_nat p2, if_pos c, if_pos c1, if_pos c2, if_pos c3, if_pos c4, r1, r2, Int.toNat_natCast, eta]
  have hsw : ((A ++ P ++ x :: q :: Q ++ C).set a q).set (a + 1) x = A ++ (P ++ [q]) ++ x :: Q ++ C := by
   rw [hE, show a = (A ++ P).length by simp; omega, swap_next']; simp
  rw [hsw]
  have := ih (a + 1) (P ++ [q]) (by simp; omega) (by simp; omega) (by simp; omega)
  have e : A ++ (P ++ [q]) ++ Q ++ x :: C = A ++ P ++ q :: Q ++ x :: C := by simp
  rw [e] at this
  exact this
theorem bub_left (A : List E) (y : E) (i : Nat) (hi : i = A.length) : ∀ (P C : List E) (m : Nat), m = A.length + P.length → (A ++ P ++ y :: C).length < 1000000000 →
 Ev (fun k => api_Entry_67.l3 k (A ++ P ++ y :: C) (i : Int) (m : Int)) (A ++ y :: (P ++ C)) := by
 intro P
 induction P using rev_ind with
 | h0 =>
  intro C m hm hlen
  refine Ev.step (fun k => by simp only [api_Entry_67.l3]; exact rfl) ?_
  have c : ¬ (m : Int) > (i : Int) := by simp at hm; omega
  simp only [if_neg c]
  have e : A ++ [] ++ y :: C = A ++ y :: ([] ++ C) := by simp
  rw [e]
  exact Ev.now _
 | h1 P p ih =>
  intro C m hm hlen
  have hlen' := hlen
  simp only [List.length_append, List.length_cons, List.length_nil] at hlen' hm
  refine Ev.step (fun k => by simp only [api_Entry_67.l3]; exact rfl) ?_
  have p0 : 0 < m := by omega
  have p1 : m < 4611686018427387904 := by omega
  have c : (m : Int) > (i : Int) := by omega
  have hE : A ++ (P ++ [p]) ++ y :: C = (A ++ P) ++ p :: y :: C := by simp
  have r1 : rd_T33 (A ++ (P ++ [p]) ++ y :: C) ((m - 1 : Nat) : Int) = p := rd_at (A := A ++ P) (B := y :: C) (by simp) (by simp; omega)
  have r2 : rd_T33 (A ++ (P ++ [p]) ++ y :: C) (m : Int) = y := rd_at (A := A ++ P ++ [p]) (B := C) (by simp) (by simp; omega)
  have c1 : (0 : Int) ≤ ((m - 1 : Nat) : Int) := by omega
  have c2 : ((m - 1 : Nat) : Int) < ((A ++ (P ++ [p]) ++ y :: C).length : Int) := by simp; omega
  have c3 : (0 : Int) ≤ (m : Int) := by omega
  have c4 : (m : Int) < ((A ++ (P ++ [p]) ++ y :: C).length : Int) := by simp; omega
  simp only [wsub1 p0 p1, if_pos c, if_pos c1, if_pos c2, if_pos c3, if_pos c4, r1, r2, Int.toNat_natCast, eta]
  have hsw : ((A ++ (P ++ [p]) ++ y :: C).set m p).set (m - 1) y = A ++ P ++ y :: (p :: C) := by
   rw [hE, show m = (A ++ P).length + 1 by simp; omega, show (A ++ P).length + 1 - 1 = (A ++ P).length by omega, swap_next]
  rw [hsw]
  have := ih (p :: C) (m - 1) (by omega) (by simp; omega)
  have e : A ++ y :: (P ++ p :: C) = A ++ y :: (P ++ [p] ++ C) := by simp
  rw [e] at this
  exact this
end Go.Proofs.Ytfhapffjnafkbaa.V
end
section
set_option linter.unusedVariables false
set_option linter.unusedSimpArgs false
namespace Go.Proofs.Ytfhapffjnafkbaa.V
open Go.RowKit Go.Proofs.YtfhapffjnafkbaaW.PrintWords Go.Proofs.YtfhapffjnafkbaaW.PrintLast Go.Proofs.YtfhapffjnafkbaaW.PrintMore
theorem split_at (L : List E) (n : Nat) (h : n < L.length) : ∃ P y Q, L = P ++ y :: Q ∧ P.length = n :=
 ⟨L.take n, L[n], L.drop (n + 1), by rw [List.getElem_cons_drop, List.take_append_drop], by rw [List.length_take]; omega⟩
theorem sym_one (A C : List E) (x : E) (r : List E) : ∀ (n : Nat) (Y1 Ym Y2 : List E), Ym.length ≤ n → SortedE (Y1 ++ Ym ++ Y2) → (∀ y ∈ Y1, ltE y x = true) → (∀ y ∈ Y2, ltE y x = false) → (A ++ x :: (Y1 ++ Ym ++ Y2) ++ C).length < 1000000000 →
 r = A ++ sortE (x :: (Y1 ++ Ym ++ Y2)) ++ C →
 Ev (fun k => api_Entry_67.l0 k (A ++ x :: (Y1 ++ Ym ++ Y2) ++ C) ((A.length : Nat) : Int) ((A.length + 1 + Y1.length : Nat) : Int) ((A.length + 1 + Y1.length + Ym.length : Nat) : Int)) r := by
 intro n
 induction n with
 | zero =>
  intro Y1 Ym Y2 hn hs h1 h2 hlen hr
  have : Ym = [] := List.eq_nil_of_length_eq_zero (by omega)
  subst this
  refine Ev.step (fun k => by simp only [api_Entry_67.l0]; exact rfl) ?_
  have c : ¬ ((A.length + 1 + Y1.length : Nat) : Int) < ((A.length + 1 + Y1.length + ([] : List E).length : Nat) : Int) := by simp
  simp only [if_neg c]
  have hb := bub_right A x (Y2 ++ C) A.length (A.length + 1 + Y1.length) Y1 [] (by simp) (by simp) (by simp at hlen ⊢; omega)
  have e1 : A ++ [] ++ x :: Y1 ++ (Y2 ++ C) = A ++ x :: (Y1 ++ [] ++ Y2) ++ C := by simp
  rw [e1] at hb
  rw [List.append_nil] at hs
  obtain ⟨q1, q2, q3⟩ := sorted_append.1 hs
  have e2 : sortE (x :: (Y1 ++ [] ++ Y2)) = Y1 ++ x :: Y2 := sortE_eq (by
   refine sorted_append.2 ⟨q1, sorted_cons.2 ⟨fun y hy => by simp [leE, h2 y hy], q2⟩, fun a ha b hb => ?_⟩
   rcases List.mem_cons.1 hb with rfl | hb
   · exact leE_of_ltE (h1 a ha)
   · exact q3 a ha b hb) (by
   rw [List.append_nil]; exact List.perm_middle)
  rw [hr, e2]
  have e3 : A ++ [] ++ Y1 ++ x :: (Y2 ++ C) = A ++ (Y1 ++ x :: Y2) ++ C := by simp
  rw [e3] at hb
  exact hb
 | succ n ih =>
  intro Y1 Ym Y2 hn hs h1 h2 hlen hr
  by_cases h0 : Ym.length = 0
  · exact ih Y1 Ym Y2 (by omega) hs h1 h2 hlen hr
  have hlen' := hlen
  simp only [List.length_append, List.length_cons] at hlen'
  refine Ev.step (fun k => by simp only [api_Entry_67.l0]; exact rfl) ?_
  have c : ((A.length + 1 + Y1.length : Nat) : Int) < ((A.length + 1 + Y1.length + Ym.length : Nat) : Int) := by omega
  obtain ⟨h, hh⟩ : ∃ h, h = (A.length + 1 + Y1.length + (A.length + 1 + Y1.length + Ym.length)) / 2 := ⟨_, rfl⟩
  have b0 : A.length + 1 + Y1.length + (A.length + 1 + Y1.length + Ym.length) < 4611686018427387904 := by omega
  obtain ⟨P, y, Q, hY, hP⟩ := split_at Ym (h - (A.length + 1 + Y1.length)) (by omega)
  subst hY
  simp only [List.length_append, List.length_cons] at hlen' hn h0 hh
  have r1 : rd_T33 (A ++ x :: (Y1 ++ (P ++ y :: Q) ++ Y2) ++ C) ((h : Nat) : Int) = y := rd_at (A := A ++ x :: (Y1 ++ P)) (B := Q ++ Y2 ++ C) (by simp) (by simp; omega)
  have r2 : rd_T33 (A ++ x :: (Y1 ++ (P ++ y :: Q) ++ Y2) ++ C) ((A.length : Nat) : Int) = x := rd_at (A := A) (B := Y1 ++ (P ++ y :: Q) ++ Y2 ++ C) (by simp) rfl
  have c1 : (0 : Int) ≤ ((h : Nat) : Int) := by omega
  have c2 : ((h : Nat) : Int) < ((A ++ x :: (Y1 ++ (P ++ y :: Q) ++ Y2) ++ C).length : Int) := by simp; omega
  have c3 : (0 : Int) ≤ ((A.length : Nat) : Int) := by omega
  have c4 : ((A.length : Nat) : Int) < ((A ++ x :: (Y1 ++ (P ++ y :: Q) ++ Y2) ++ C).length : Int) := by simp; omega
  have hh' : (A.length + 1 + Y1.length + (A.length + 1 + Y1.length + (P ++ y :: Q).length)) / 2 = h := by simp only [List.length_append, List.length_cons]; omega
  have b1 : h ≤ 4611686018427387904 := by omega
  have hi1 : h + 1 = A.length + 1 + (Y1 ++ P ++ [y]).length := by simp; omega
  have hi2 : A.length + 1 + Y1.length + (P ++ y :: Q).length = A.length + 1 + (Y1 ++ P ++ [y]).length + Q.length := by simp; omega
  have hi3 : h = A.length + 1 + Y1.length + P.length := by omega
  have e5 : Y1 ++ (P ++ y :: Q) ++ Y2 = Y1 ++ P ++ [y] ++ Q ++ Y2 := by simp
  have e6 : Y1 ++ (P ++ y :: Q) ++ Y2 = Y1 ++ P ++ (y :: Q ++ Y2) := by simp
  have l1 : (A ++ x :: (Y1 ++ P ++ [y] ++ Q ++ Y2) ++ C).length < 1000000000 := by simp; omega
  have l2 : (A ++ x :: (Y1 ++ P ++ (y :: Q ++ Y2)) ++ C).length < 1000000000 := by simp; omega
  have lq : Q.length ≤ n := by omega
  have lp : P.length ≤ n := by omega
  simp only [if_pos c, whalf b0, hh', if_pos c1, if_pos c2, if_pos c3, if_pos c4, r1, r2]
  refine Ev.bind (sortcmp_ev y x) ?_
  obtain ⟨q1, q2, q3⟩ := sorted_append.1 hs
  obtain ⟨p1, p2, p3⟩ := sorted_append.1 q1
  obtain ⟨s1, s2, s3⟩ := sorted_append.1 p2
  cases hlt : ltE y x with
  | true =>
   simp only [if_pos ((cmpE_neg y x).2 hlt), wrap_nat b1]
   rw [hi1, hi2, e5]
   refine ih (Y1 ++ P ++ [y]) Q Y2 lq (by rw [← e5]; exact hs) (fun z hz => ?_) h2 l1 (by rw [hr, e5])
   rcases List.mem_append.1 hz with hz | hz
   · rcases List.mem_append.1 hz with hz | hz
     · exact h1 z hz
     · exact ltE_of_le_lt (s3 z hz y (by simp)) hlt
   · rw [List.mem_singleton.1 hz]; exact hlt
  | false =>
   have hn' : ¬ cmpE y x < 0 := fun h => by rw [(cmpE_neg y x).1 h] at hlt; cases hlt
   simp only [if_neg hn']
   rw [hi3, e6]
   refine ih Y1 P (y :: Q ++ Y2) lp (by rw [← e6]; exact hs) h1 (fun z hz => ?_) l2 (by rw [hr, e6])
   rcases List.mem_append.1 hz with hz | hz
   · have hyz : leE y z = true := by
      rcases List.mem_cons.1 hz with rfl | hz
      · exact leE_refl _
      · exact (sorted_cons.1 s2).1 z hz
     cases hzx : ltE z x with
     | false => rfl
     | true => rw [ltE_of_le_lt hyz hzx] at hlt; cases hlt
   · exact h2 z hz
theorem sym_two (A C : List E) (y : E) (r : List E) : ∀ (n : Nat) (X1 Xm X2 : List E), Xm.length ≤ n → SortedE (X1 ++ Xm ++ X2) → (∀ x ∈ X1, ltE y x = false) → (∀ x ∈ X2, ltE y x = true) → (A ++ (X1 ++ Xm ++ X2) ++ y :: C).length < 1000000000 →
 r = A ++ sortE (X1 ++ Xm ++ X2 ++ [y]) ++ C →
 Ev (fun k => api_Entry_67.l2 k (A ++ (X1 ++ Xm ++ X2) ++ y :: C) ((A.length + X1.length + Xm.length + X2.length : Nat) : Int) ((A.length + X1.length : Nat) : Int) ((A.length + X1.length + Xm.length : Nat) : Int)) r := by
 intro n
 induction n with
 | zero =>
  intro X1 Xm X2 hn hs h1 h2 hlen hr
  have : Xm = [] := List.eq_nil_of_length_eq_zero (by omega)
  subst this
  refine Ev.step (fun k => by simp only [api_Entry_67.l2]; exact rfl) ?_
  have c : ¬ ((A.length + X1.length : Nat) : Int) < ((A.length + X1.length + ([] : List E).length : Nat) : Int) := by simp
  simp only [if_neg c]
  have hb := bub_left (A ++ X1) y (A.length + X1.length) (by simp) X2 C (A.length + X1.length + ([] : List E).length + X2.length) (by simp) (by simp at hlen ⊢; omega)
  have e1 : A ++ X1 ++ X2 ++ y :: C = A ++ (X1 ++ [] ++ X2) ++ y :: C := by simp
  rw [e1] at hb
  rw [List.append_nil] at hs
  obtain ⟨q1, q2, q3⟩ := sorted_append.1 hs
  have e2 : sortE (X1 ++ [] ++ X2 ++ [y]) = X1 ++ y :: X2 := sortE_eq (by
   refine sorted_append.2 ⟨q1, sorted_cons.2 ⟨fun z hz => leE_of_ltE (h2 z hz), q2⟩, fun a ha b hb => ?_⟩
   rcases List.mem_cons.1 hb with rfl | hb
   · simp [leE, h1 a ha]
   · exact q3 a ha b hb) (by
   rw [List.append_nil, List.append_assoc]
   exact List.Perm.append_left X1 (List.perm_append_singleton y X2).symm)
  rw [hr, e2]
  have e3 : A ++ X1 ++ y :: (X2 ++ C) = A ++ (X1 ++ y :: X2) ++ C := by simp
  rw [e3] at hb
  exact hb
 | succ n ih =>
  intro X1 Xm X2 hn hs h1 h2 hlen hr
  by_cases h0 : Xm.length = 0
  · exact ih X1 Xm X2 (by omega) hs h1 h2 hlen hr
  have hlen' := hlen
  simp only [List.length_append, List.length_cons] at hlen'
  refine Ev.step (fun k => by simp only [api_Entry_67.l2]; exact rfl) ?_
  have c : ((A.length + X1.length : Nat) : Int) < ((A.length + X1.length + Xm.length : Nat) : Int) := by omega
  obtain ⟨h, hh⟩ : ∃ h, h = (A.length + X1.length + (A.length + X1.length + Xm.length)) / 2 := ⟨_, rfl⟩
  have b0 : A.length + X1.length + (A.length + X1.length + Xm.length) < 4611686018427387904 := by omega
  obtain ⟨P, x, Q, hX, hP⟩ := split_at Xm (h - (A.length + X1.length)) (by omega)
  subst hX
  simp only [List.length_append, List.length_cons] at hlen' hn h0 hh
  have r1 : rd_T33 (A ++ (X1 ++ (P ++ x :: Q) ++ X2) ++ y :: C) ((h : Nat) : Int) = x := rd_at (A := A ++ X1 ++ P) (B := Q ++ X2 ++ y :: C) (by simp) (by simp; omega)
  have r2 : rd_T33 (A ++ (X1 ++ (P ++ x :: Q) ++ X2) ++ y :: C) ((A.length + X1.length + (P ++ x :: Q).length + X2.length : Nat) : Int) = y := rd_at (A := A ++ (X1 ++ (P ++ x :: Q) ++ X2)) (B := C) rfl (by simp; omega)
  have c1 : (0 : Int) ≤ ((h : Nat) : Int) := by omega
  have c2 : ((h : Nat) : Int) < ((A ++ (X1 ++ (P ++ x :: Q) ++ X2) ++ y :: C).length : Int) := by simp; omega
  have c3 : (0 : Int) ≤ ((A.length + X1.length + (P ++ x :: Q).length + X2.length : Nat) : Int) := by omega
  have c4 : ((A.length + X1.length + (P ++ x :: Q).length + X2.length : Nat) : Int) < ((A ++ (X1 ++ (P ++ x :: Q) ++ X2) ++ y :: C).length : Int) := by simp; omega
  have hh' : (A.length + X1.length + (A.length + X1.length + (P ++ x :: Q).length)) / 2 = h := by simp only [List.length_append, List.length_cons]; omega
  have b1 : h ≤ 4611686018427387904 := by omega
  have hi1 : h + 1 = A.length + (X1 ++ P ++ [x]).length := by simp; omega
  have hi2 : A.length + X1.length + (P ++ x :: Q).length = A.length + (X1 ++ P ++ [x]).length + Q.length := by simp; omega
  have hi3 : h = A.length + X1.length + P.length := by omega
  have hm1 : A.length + X1.length + (P ++ x :: Q).length + X2.length = A.length + (X1 ++ P ++ [x]).length + Q.length + X2.length := by simp; omega
  have hm2 : A.length + X1.length + (P ++ x :: Q).length + X2.length = A.length + X1.length + P.length + (x :: Q ++ X2).length := by simp; omega
  have e5 : X1 ++ (P ++ x :: Q) ++ X2 = X1 ++ P ++ [x] ++ Q ++ X2 := by simp
  have e6 : X1 ++ (P ++ x :: Q) ++ X2 = X1 ++ P ++ (x :: Q ++ X2) := by simp
  have l1 : (A ++ (X1 ++ P ++ [x] ++ Q ++ X2) ++ y :: C).length < 1000000000 := by simp; omega
  have l2 : (A ++ (X1 ++ P ++ (x :: Q ++ X2)) ++ y :: C).length < 1000000000 := by simp; omega
  have lq : Q.length ≤ n := by omega
  have lp : P.length ≤ n := by omega
  simp only [if_pos c, whalf b0, hh', if_pos c1, if_pos c2, if_pos c3, if_pos c4, r1, r2]
  refine Ev.bind (sortcmp_ev y x) ?_
  obtain ⟨q1, q2, q3⟩ := sorted_append.1 hs
  obtain ⟨p1, p2, p3⟩ := sorted_append.1 q1
  obtain ⟨s1, s2, s3⟩ := sorted_append.1 p2
  cases hlt : ltE y x with
  | true =>
   simp only [if_pos ((cmpE_neg y x).2 hlt)]
   rw [hm2, hi3, e6]
   refine ih X1 P (x :: Q ++ X2) lp (by rw [← e6]; exact hs) h1 (fun z hz => ?_) l2 (by rw [hr, e6])
   rcases List.mem_append.1 hz with hz | hz
   · rcases List.mem_cons.1 hz with rfl | hz
     · exact hlt
     · exact ltE_of_lt_le hlt ((sorted_cons.1 s2).1 z hz)
   · exact h2 z hz
  | false =>
   have hn' : ¬ cmpE y x < 0 := fun h => by rw [(cmpE_neg y x).1 h] at hlt; cases hlt
   simp only [if_neg hn', wrap_nat b1]
   rw [hm1, hi1, hi2, e5]
   refine ih (X1 ++ P ++ [x]) Q X2 lq (by rw [← e5]; exact hs) (fun z hz => ?_) h2 l1 (by rw [hr, e5])
   have key : ∀ z, leE z x = true → ltE y z = false := fun z hz => by
    cases hc : ltE y z with
    | false => rfl
    | true => rw [ltE_of_lt_le hc hz] at hlt; cases hlt
   rcases List.mem_append.1 hz with hz | hz
   · rcases List.mem_append.1 hz with hz | hz
     · exact h1 z hz
     · exact key z (s3 z hz x (by simp))
   · rw [List.mem_singleton.1 hz]; exact hlt
end Go.Proofs.Ytfhapffjnafkbaa.V
end
section
set_option linter.unusedVariables false
set_option linter.unusedSimpArgs false
namespace Go.Proofs.Ytfhapffjnafkbaa.V
open Go.RowKit Go.Proofs.YtfhapffjnafkbaaW.PrintWords Go.Proofs.YtfhapffjnafkbaaW.PrintLast Go.Proofs.YtfhapffjnafkbaaW.PrintMore
theorem sym_search (l : List E) (a m b mid : Nat) (hl : l.length < 1000000000) (ham : a < m) (hmb : m < b) (hbl : b ≤ l.length) (hmid : mid = (a + b) / 2) (r : List E) (lo hi : Nat) (hlh : (mid < m ∧ lo = mid + m - b ∧ hi = mid) ∨ (m ≤ mid ∧ lo = a ∧ hi = m))
 (final : ∀ s : Nat, lo ≤ s → s ≤ hi → (s = lo ∨ ltE (rd_T33 l ((mid + m - s : Nat) : Int)) (rd_T33 l ((s - 1 : Nat) : Int)) = false) → (s = hi ∨ ltE (rd_T33 l ((mid + m - 1 - s : Nat) : Int)) (rd_T33 l ((s : Nat) : Int)) = true) →
  Ev (fun k => if ((s : Nat) : Int) < ((m : Nat) : Int) then (api_Entry_67.j6 k l (a : Int) (m : Int) (b : Int) (mid : Int) (s : Int) (wrap64 (((mid + m : Nat) : Int) - ((s : Nat) : Int))) (decide (((m : Nat) : Int) < (wrap64 (((mid + m : Nat) : Int) - ((s : Nat) : Int)))))) else (api_Entry_67.j6 k l (a : Int) (m : Int) (b : Int) (mid : Int) (s : Int) (wrap64 (((mid + m : Nat) : Int) - ((s : Nat) : Int))) false)) r) :
 ∀ (d s t : Nat), t - s ≤ d → lo ≤ s → s ≤ t → t ≤ hi → (s = lo ∨ ltE (rd_T33 l ((mid + m - s : Nat) : Int)) (rd_T33 l ((s - 1 : Nat) : Int)) = false) → (t = hi ∨ ltE (rd_T33 l ((mid + m - 1 - t : Nat) : Int)) (rd_T33 l ((t : Nat) : Int)) = true) →
 Ev (fun k => api_Entry_67.l4 k l (a : Int) (m : Int) (b : Int) (mid : Int) ((mid + m : Nat) : Int) (s : Int) (t : Int) ((mid + m - 1 : Nat) : Int)) r := by
 intro d
 induction d with
 | zero =>
  intro s t hd h1 h2 h3 g1 g2
  have : s = t := by omega
  subst this
  refine Ev.step (fun k => by simp only [api_Entry_67.l4]; exact rfl) ?_
  have c : ¬ ((s : Nat) : Int) < ((s : Nat) : Int) := by omega
  simp only [if_neg c]
  exact final s h1 h3 g1 g2
 | succ d ih =>
  intro s t hd h1 h2 h3 g1 g2
  by_cases hst : s = t
  · exact ih s t (by omega) h1 h2 h3 g1 g2
  refine Ev.step (fun k => by simp only [api_Entry_67.l4]; exact rfl) ?_
  have c : ((s : Nat) : Int) < ((t : Nat) : Int) := by omega
  obtain ⟨h, hh⟩ : ∃ h, h = (s + t) / 2 := ⟨_, rfl⟩
  have b0 : s + t < 4611686018427387904 := by omega
  have b1 : h ≤ mid + m - 1 := by omega
  have b2 : mid + m - 1 < 4611686018427387904 := by omega
  have b3 : h ≤ 4611686018427387904 := by omega
  have c1 : (0 : Int) ≤ ((mid + m - 1 - h : Nat) : Int) := by omega
  have c2 : ((mid + m - 1 - h : Nat) : Int) < (l.length : Int) := by omega
  have c3 : (0 : Int) ≤ ((h : Nat) : Int) := by omega
  have c4 : ((h : Nat) : Int) < (l.length : Int) := by omega
  have k1 : h - s ≤ d := by omega
  have k2 : s ≤ h := by omega
  have k3 : h ≤ hi := by omega
  have k4 : t - (h + 1) ≤ d := by omega
  have k5 : lo ≤ h + 1 := by omega
  have k6 : h + 1 ≤ t := by omega
  have k7 : mid + m - (h + 1) = mid + m - 1 - h := by omega
  have k8 : h + 1 - 1 = h := by omega
  simp only [if_pos c, whalf b0, ← hh, wsub b1 b2, if_pos c1, if_pos c2, if_pos c3, if_pos c4]
  refine Ev.bind (sortcmp_ev (rd_T33 l ((mid + m - 1 - h : Nat) : Int)) (rd_T33 l ((h : Nat) : Int))) ?_
  cases hlt : ltE (rd_T33 l ((mid + m - 1 - h : Nat) : Int)) (rd_T33 l ((h : Nat) : Int)) with
  | true =>
   simp only [if_pos ((cmpE_neg _ _).2 hlt)]
   exact ih s h k1 h1 k2 k3 g1 (.inr hlt)
  | false =>
   have hn' : ¬ cmpE (rd_T33 l ((mid + m - 1 - h : Nat) : Int)) (rd_T33 l ((h : Nat) : Int)) < 0 := fun h => by rw [(cmpE_neg _ _).1 h] at hlt; cases hlt
   simp only [if_neg hn', wrap_nat b3]
   exact ih (h + 1) t k4 k5 k6 h3 (.inr (by rw [k7, k8]; exact hlt)) g2
theorem sym_fin (A X1 X2 Y1 Y2 C : List E) (n : Nat) (hn : X1.length + X2.length + Y1.length + Y2.length = n) (hmid : A.length + X1.length + Y1.length = (A.length + (A.length + n)) / 2) (hlen : A.length + n + C.length < 1000000000)
 (hX : SortedE (X1 ++ X2)) (hY : SortedE (Y1 ++ Y2)) (h12 : ∀ x ∈ X1, ∀ y ∈ Y2, leE x y = true) (h21 : ∀ y ∈ Y1, ∀ x ∈ X2, leE y x = true) (hx0 : 0 < X1.length + X2.length) (hy0 : 0 < Y1.length + Y2.length) (hn4 : 2 < n)
 (ih : ∀ (n' : Nat), n' < n → ∀ A X Y C : List E, X.length + Y.length = n' → 0 < X.length → 0 < Y.length → SortedE X → SortedE Y → (A ++ X ++ Y ++ C).length < 1000000000 →
  Ev (fun k => api_Entry_67.f k (A ++ X ++ Y ++ C) ((A.length : Nat) : Int) ((A.length + X.length : Nat) : Int) ((A.length + X.length + Y.length : Nat) : Int)) (A ++ sortE (X ++ Y) ++ C)) :
 Ev (fun k => if ((A.length + X1.length : Nat) : Int) < ((A.length + X1.length + X2.length : Nat) : Int) then (api_Entry_67.j6 k (A ++ (X1 ++ X2) ++ (Y1 ++ Y2) ++ C) ((A.length : Nat) : Int) ((A.length + X1.length + X2.length : Nat) : Int) ((A.length + n : Nat) : Int) ((A.length + X1.length + Y1.length : Nat) : Int) ((A.length + X1.length : Nat) : Int)
  ((A.length + X1.length + X2.length + Y1.length : Nat) : Int) (decide (((A.length + X1.length + X2.length : Nat) : Int) < ((A.length + X1.length + X2.length + Y1.length : Nat) : Int)))) else (api_Entry_67.j6 k (A ++ (X1 ++ X2) ++ (Y1 ++ Y2) ++ C) ((A.length : Nat) : Int) ((A.length + X1.length + X2.length : Nat) : Int) ((A.length + n : Nat) : Int) ((A.length + X1.length + Y1.length : Nat) : Int) ((A.length + X1.length : Nat) : Int)
  ((A.length + X1.length + X2.length + Y1.length : Nat) : Int) false)) (A ++ sortE (X1 ++ X2 ++ (Y1 ++ Y2)) ++ C) := by
 obtain ⟨sx1, sx2, sx⟩ := sorted_append.1 hX
 obtain ⟨sy1, sy2, sy⟩ := sorted_append.1 hY
 have hfin : sortE (X1 ++ X2 ++ (Y1 ++ Y2)) = sortE (X1 ++ Y1) ++ sortE (X2 ++ Y2) := sortE_eq (by
  refine sorted_append.2 ⟨sortE_sorted _, sortE_sorted _, fun u hu v hv => ?_⟩
  rcases List.mem_append.1 (sortE_mem.1 hu) with hu | hu <;> rcases List.mem_append.1 (sortE_mem.1 hv) with hv | hv
  · exact sx u hu v hv
  · exact h12 u hu v hv
  · exact h21 u hu v hv
  · exact sy u hu v hv) (by
  refine ((sortE_perm (X1 ++ Y1)).append (sortE_perm (X2 ++ Y2))).trans ?_
  rw [List.append_assoc, List.append_assoc]
  refine List.Perm.append_left X1 ?_
  rw [← List.append_assoc, ← List.append_assoc]
  exact List.Perm.append_right Y2 List.perm_append_comm)
 rw [hfin]
 have right : ∀ L : List E, L = sortE (X1 ++ Y1) → Ev (fun k => if ((A.length + X1.length + Y1.length : Nat) : Int) < ((A.length + X1.length + X2.length + Y1.length : Nat) : Int) then (if ((A.length + X1.length + X2.length + Y1.length : Nat) : Int) < ((A.length + n : Nat) : Int) then ((api_Entry_67.f k (A ++ L ++ (X2 ++ Y2) ++ C) ((A.length + X1.length + Y1.length : Nat) : Int) ((A.length + X1.length + X2.length + Y1.length : Nat) : Int) ((A.length + n : Nat) : Int)).bind fun t120 => (some t120)) else (some (A ++ L ++ (X2 ++ Y2) ++ C))) else (some (A ++ L ++ (X2 ++ Y2) ++ C)))
  (A ++ (sortE (X1 ++ Y1) ++ sortE (X2 ++ Y2)) ++ C) := by
  intro L hL
  have hLl : L.length = X1.length + Y1.length := by rw [hL, sortE_length]; simp
  by_cases h2 : 0 < X2.length
  · have c1 : ((A.length + X1.length + Y1.length : Nat) : Int) < ((A.length + X1.length + X2.length + Y1.length : Nat) : Int) := by omega
    simp only [if_pos c1]
    by_cases h3 : 0 < Y2.length
    · have c2 : ((A.length + X1.length + X2.length + Y1.length : Nat) : Int) < ((A.length + n : Nat) : Int) := by omega
      simp only [if_pos c2]
      refine Ev.bind (a := A ++ (sortE (X1 ++ Y1) ++ sortE (X2 ++ Y2)) ++ C) ?_ (Ev.now _)
      have := ih (X2.length + Y2.length) (by omega) (A ++ L) X2 Y2 C rfl h2 h3 sx2 sy2 (by simp [hLl]; omega)
      have e1 : (A ++ L).length = A.length + X1.length + Y1.length := by simp [hLl]; omega
      have e2 : (A ++ L).length + X2.length = A.length + X1.length + X2.length + Y1.length := by simp [hLl]; omega
      have e3 : (A ++ L).length + X2.length + Y2.length = A.length + n := by simp [hLl]; omega
      rw [e3, e2, e1] at this
      have e4 : A ++ L ++ X2 ++ Y2 ++ C = A ++ L ++ (X2 ++ Y2) ++ C := by simp
      have e5 : A ++ L ++ sortE (X2 ++ Y2) ++ C = A ++ (sortE (X1 ++ Y1) ++ sortE (X2 ++ Y2)) ++ C := by rw [hL]; simp
      rw [e4, e5] at this
      exact this
    · have : Y2 = [] := List.eq_nil_of_length_eq_zero (by omega)
      subst this
      have c2 : ¬ ((A.length + X1.length + X2.length + Y1.length : Nat) : Int) < ((A.length + n : Nat) : Int) := by simp at hn; omega
      simp only [if_neg c2]
      rw [List.append_nil, sortE_of_sorted sx2, hL]
      have e : A ++ sortE (X1 ++ Y1) ++ X2 ++ C = A ++ (sortE (X1 ++ Y1) ++ X2) ++ C := by simp
      rw [e]
      exact Ev.now _
  · have : X2 = [] := List.eq_nil_of_length_eq_zero (by omega)
    subst this
    have c1 : ¬ ((A.length + X1.length + Y1.length : Nat) : Int) < ((A.length + X1.length + ([] : List E).length + Y1.length : Nat) : Int) := by simp
    simp only [if_neg c1]
    rw [List.nil_append, sortE_of_sorted sy2, hL]
    have e : A ++ sortE (X1 ++ Y1) ++ Y2 ++ C = A ++ (sortE (X1 ++ Y1) ++ Y2) ++ C := by simp
    rw [e]
    exact Ev.now _
 have left : Ev (fun k => api_Entry_67.j7 k (A ++ (X1 ++ Y1) ++ (X2 ++ Y2) ++ C) ((A.length : Nat) : Int) ((A.length + n : Nat) : Int) ((A.length + X1.length + Y1.length : Nat) : Int) ((A.length + X1.length : Nat) : Int) ((A.length + X1.length + X2.length + Y1.length : Nat) : Int)) (A ++ (sortE (X1 ++ Y1) ++ sortE (X2 ++ Y2)) ++ C) := by
  refine Ev.step (fun k => by simp only [api_Entry_67.j7]; exact rfl) ?_
  by_cases h1 : 0 < X1.length
  · have c1 : ((A.length : Nat) : Int) < ((A.length + X1.length : Nat) : Int) := by omega
    simp only [if_pos c1]
    refine Ev.step (fun k => by simp only [api_Entry_67.j8]; exact rfl) ?_
    by_cases h2 : 0 < Y1.length
    · have c2 : ((A.length + X1.length : Nat) : Int) < ((A.length + X1.length + Y1.length : Nat) : Int) := by omega
      simp only [decide_eq_true c2, if_true]
      have := ih (X1.length + Y1.length) (by omega) A X1 Y1 (X2 ++ Y2 ++ C) rfl h1 h2 sx1 sy1 (by simp; omega)
      have e4 : A ++ X1 ++ Y1 ++ (X2 ++ Y2 ++ C) = A ++ (X1 ++ Y1) ++ (X2 ++ Y2) ++ C := by simp
      have e5 : A ++ sortE (X1 ++ Y1) ++ (X2 ++ Y2 ++ C) = A ++ sortE (X1 ++ Y1) ++ (X2 ++ Y2) ++ C := by simp
      rw [e4, e5] at this
      exact Ev.bind this (right _ rfl)
    · have : Y1 = [] := List.eq_nil_of_length_eq_zero (by omega)
      subst this
      have c2 : ¬ ((A.length + X1.length : Nat) : Int) < ((A.length + X1.length + ([] : List E).length : Nat) : Int) := by simp
      simp only [decide_eq_false c2, Bool.false_eq_true, if_false]
      have := right X1 (by rw [List.append_nil, sortE_of_sorted sx1])
      rw [List.append_nil] at this ⊢
      exact this
  · have : X1 = [] := List.eq_nil_of_length_eq_zero (by omega)
    subst this
    have c1 : ¬ ((A.length : Nat) : Int) < ((A.length + ([] : List E).length : Nat) : Int) := by simp
    simp only [if_neg c1]
    refine Ev.step (fun k => by simp only [api_Entry_67.j8]; exact rfl) ?_
    simp only [Bool.false_eq_true, if_false]
    exact right Y1 (by rw [List.nil_append, sortE_of_sorted sy1])
 by_cases h2 : 0 < X2.length
 · have c1 : ((A.length + X1.length : Nat) : Int) < ((A.length + X1.length + X2.length : Nat) : Int) := by omega
   simp only [if_pos c1]
   refine Ev.step (fun k => by simp only [api_Entry_67.j6]; exact rfl) ?_
   by_cases h3 : 0 < Y1.length
   · have c2 : ((A.length + X1.length + X2.length : Nat) : Int) < ((A.length + X1.length + X2.length + Y1.length : Nat) : Int) := by omega
     simp only [decide_eq_true c2, if_true]
     have := rot_told (A ++ X1) X2 Y1 (Y2 ++ C) h2 h3 (by simp; omega)
     have e1 : (A ++ X1).length = A.length + X1.length := by simp
     have e4 : A ++ X1 ++ X2 ++ Y1 ++ (Y2 ++ C) = A ++ (X1 ++ X2) ++ (Y1 ++ Y2) ++ C := by simp
     have e5 : A ++ X1 ++ Y1 ++ X2 ++ (Y2 ++ C) = A ++ (X1 ++ Y1) ++ (X2 ++ Y2) ++ C := by simp
     rw [e1, e4, e5] at this
     exact Ev.bind this left
   · have : Y1 = [] := List.eq_nil_of_length_eq_zero (by omega)
     subst this
     have c2 : ¬ ((A.length + X1.length + X2.length : Nat) : Int) < ((A.length + X1.length + X2.length + ([] : List E).length : Nat) : Int) := by simp
     simp only [decide_eq_false c2, Bool.false_eq_true, if_false]
     have e5 : A ++ (X1 ++ []) ++ (X2 ++ Y2) ++ C = A ++ (X1 ++ X2) ++ ([] ++ Y2) ++ C := by simp
     rw [e5] at left
     exact left
 · have : X2 = [] := List.eq_nil_of_length_eq_zero (by omega)
   subst this
   have c1 : ¬ ((A.length + X1.length : Nat) : Int) < ((A.length + X1.length + ([] : List E).length : Nat) : Int) := by simp
   simp only [if_neg c1]
   refine Ev.step (fun k => by simp only [api_Entry_67.j6]; exact rfl) ?_
   simp only [Bool.false_eq_true, if_false]
   have e5 : A ++ (X1 ++ Y1) ++ ([] ++ Y2) ++ C = A ++ (X1 ++ []) ++ (Y1 ++ Y2) ++ C := by simp
   rw [e5] at left
   exact left
end Go.Proofs.Ytfhapffjnafkbaa.V
end
