/- What the printed functions of layer 5 compute: the order, Less, Put, Sort, Merge, Same and their like, in plain words. -/
import Derived.Test.YthcnpkkpjfigeaaVOrd
import Derived.Test.YthcnpkkpjfigeaaVPentry
import Derived.Test.YthcnpkkpjfigeaaVPvergerref5
import Derived.Test.YthcnpkkpjfigeaaVPvergerref51
set_option linter.unusedVariables false
set_option linter.unusedSimpArgs false
namespace Go.Proofs.Ythcnpkkpjfigeaa.V
open Go.RowKit Go.Proofs.YthcnpkkpjfigeaaW.PrintWords Go.Proofs.YthcnpkkpjfigeaaW.PrintLast Go.Proofs.YthcnpkkpjfigeaaW.PrintMore

theorem wrap_id {i : Int} (h0 : -9223372036854775808 ≤ i) (h1 : i ≤ 9223372036854775807) : wrap64 i = i := by unfold wrap64; omega
theorem wrap_nat {n : Nat} (h : n ≤ 4611686018427387904) : wrap64 ((n : Int) + 1) = ((n + 1 : Nat) : Int) := by rw [wrap_id (by omega) (by omega)]; omega
theorem rd_nat (l : List E) (i : Nat) : rd_T33 l (i : Int) = l.getD i z33 := by unfold rd_T33; rw [Int.toNat_natCast]
theorem rd_get {l : List E} {i : Nat} (h : i < l.length) : rd_T33 l (i : Int) = l[i] := by rw [rd_nat]; simp [List.getD_eq_getElem?_getD, List.getElem?_eq_getElem h]
theorem rd_some {l : List E} {i : Nat} {a : E} (h : l[i]? = some a) : rd_T33 l (i : Int) = a := by rw [rd_nat, List.getD_eq_getElem?_getD, h]; rfl
theorem succ_of {k n : Nat} (h : n < k) : ∃ m, k = m + 1 ∧ n ≤ m := ⟨k - 1, by omega, by omega⟩

/-- How two entries stand. -/
def cmpE (a b : E) : Int := if ltE a b = true then -1 else if ltE b a = true then 1 else 0
theorem cmpE_neg (a b : E) : cmpE a b < 0 ↔ ltE a b = true := by
  unfold cmpE
  split
  · simp_all
  · split <;> simp_all
theorem cmpE_zero (a b : E) : cmpE a b = 0 ↔ a = b := by
  unfold cmpE
  rcases ltE_tri a b with h | h | h
  · rw [if_pos h]
    constructor
    · intro h0; omega
    · intro e; subst e; rw [ltE_irrefl] at h; cases h
  · subst h
    rw [if_neg (by rw [ltE_irrefl]; simp), if_neg (by rw [ltE_irrefl]; simp)]
    simp
  · rw [if_neg (by rw [ltE_asymm h]; simp), if_pos h]
    constructor
    · intro h0; omega
    · intro e; subst e; rw [ltE_irrefl] at h; cases h
theorem cmpE_pos (a b : E) : 0 < cmpE a b ↔ ltE b a = true := by
  unfold cmpE
  split
  · rename_i h
    rw [ltE_asymm h]
    simp
  · split <;> simp_all

theorem compare_u (a b : Int) : cmp_Compare_uint64.f a b = some (if a < b then -1 else if a > b then 1 else 0) := by
  simp only [cmp_Compare_uint64.f, cmp_isNaN_uint64.f, Option.bind_some, bne_self_eq_false, Bool.false_eq_true, if_false]
  by_cases h1 : a < b
  · simp [h1]
  · by_cases h2 : a > b <;> simp [h1, h2]
theorem compare_i (a b : Int) : cmp_Compare_int.f a b = some (if a < b then -1 else if a > b then 1 else 0) := by
  simp only [cmp_Compare_int.f, cmp_isNaN_int.f, Option.bind_some, bne_self_eq_false, Bool.false_eq_true, if_false]
  by_cases h1 : a < b
  · simp [h1]
  · by_cases h2 : a > b <;> simp [h1, h2]
theorem or_two (k : Nat) (hk : 3 ≤ k) (x y : Int) : cmp_Or_int.f k [x, y] = some (if x = 0 then y else x) := by
  obtain ⟨k, rfl⟩ : ∃ m, k = m + 3 := ⟨k - 3, by omega⟩
  unfold cmp_Or_int.f
  have e1 : wrap64 (0 + 1) = 1 := wrap_id (by omega) (by omega)
  have e2 : wrap64 (1 + 1) = 2 := wrap_id (by omega) (by omega)
  have r0 : rd [x, y] 0 = x := rfl
  have r1 : rd [x, y] 1 = y := rfl
  simp only [cmp_Or_int.l0, List.length_cons, List.length_nil]
  rw [if_pos (by decide), if_pos (by decide), if_pos (by decide), r0]
  by_cases hx : x = 0
  · rw [if_pos hx, e1, if_pos (by decide), if_pos (by decide), if_pos (by decide), r1]
    by_cases hy : y = 0
    · rw [if_pos hy, e2, if_neg (by decide), if_pos hx, hy]
    · rw [if_neg hy, if_pos hx]
  · rw [if_neg hx, if_neg hx]
theorem compare_told (k : Nat) (hk : 3 ≤ k) (a b c d : Int) : entry_compare.f k a b c d = some (cmpE ⟨a, b⟩ ⟨c, d⟩) := by
  unfold entry_compare.f
  rw [compare_u, compare_i]
  simp only [Option.bind_some]
  rw [or_two k hk]
  simp only [Option.bind_some]
  congr 1
  unfold cmpE
  simp only [ltE, Bool.or_eq_true, Bool.and_eq_true, decide_eq_true_eq]
  by_cases h1 : a < c
  · simp [h1]
  · by_cases h2 : a > c
    · have h3 : ¬ a = c := by omega
      have h4 : c < a := h2
      simp [h1, h2, h3, h4]
    · have h3 : a = c := by omega
      subst h3
      by_cases h5 : b < d
      · simp [h5]
      · by_cases h6 : b > d
        · have h7 : d < b := h6
          simp [h5, h6, h7]
        · have h7 : ¬ d < b := h6
          simp [h5, h6, h7]
theorem less_told (k : Nat) (hk : 3 ≤ k) (a b c d : Int) : entry_Less.f k a b c d = some (ltE ⟨a, b⟩ ⟨c, d⟩) := by
  unfold entry_Less.f
  rw [compare_told k hk]
  simp only [Option.bind_some]
  congr 1
  have := cmpE_neg ⟨a, b⟩ ⟨c, d⟩
  cases h : ltE ⟨a, b⟩ ⟨c, d⟩ with
  | true => exact decide_eq_true (this.2 h)
  | false => exact decide_eq_false (fun h2 => by rw [this.1 h2] at h; cases h)
theorem refless_told (a b c d : Int) : vergerref5_Less.f a b c d = some (ltE ⟨a, b⟩ ⟨c, d⟩) := by
  unfold vergerref5_Less.f ltE
  by_cases h1 : a < c
  · simp [h1]
  · rw [if_neg h1]
    by_cases h2 : a = c
    · simp [h2]
    · simp [h1, h2]

/-! ### the document's Put and Sort -/
theorem putE_at {l : List E} {e : E} {i : Nat} (hi : i ≤ l.length) (hbefore : ∀ j a, j < i → l[j]? = some a → ltE e a = false) (hat : ∀ a, l[i]? = some a → ltE e a = true) : putE l e = l.take i ++ e :: l.drop i := by
  induction l generalizing i with
  | nil => simp at hi; subst hi; simp [putE]
  | cons b l ih =>
    cases i with
    | zero =>
      have := hat b rfl
      simp [putE, leE, this]
    | succ i =>
      have hb := hbefore 0 b (by omega) rfl
      have := ih (i := i) (by simpa using hi) (fun j a hj ha => hbefore (j + 1) a (by omega) ha) (fun a ha => hat a ha)
      unfold putE at this ⊢
      simp only [List.takeWhile_cons, List.dropWhile_cons, leE, hb, Bool.not_false, if_true, List.take_succ_cons, List.drop_succ_cons, List.cons_append]
      exact congrArg (b :: ·) this
theorem refput_loop (l : List E) (e0 e1 : Int) (hl : l.length < 1000000000) : ∀ (d k i : Nat), l.length - i = d → i ≤ l.length → d < k → (∀ j a, j < i → l[j]? = some a → ltE ⟨e0, e1⟩ a = false) →
    vergerref5_Put.l0 k l (i : Int) e0 e1 = some (putE l ⟨e0, e1⟩) := by
  intro d
  induction d with
  | zero =>
    intro k i hd hi hk hb
    obtain ⟨k, rfl, _⟩ := succ_of hk
    have : i = l.length := by omega
    subst this
    simp only [vergerref5_Put.l0]
    rw [if_neg (by omega)]
    simp only [Option.bind_some]
    rw [if_pos (by omega), if_pos (by omega)]
    rw [putE_at (Nat.le_refl _) hb (fun a ha => by simp at ha)]
    simp only [Int.toNat_natCast, Option.bind_some, List.length_nil, List.length_append, List.length_take, List.length_drop, List.length_cons, List.nil_append]
    rw [if_pos (by omega), if_pos (by omega), if_pos (by omega)]
    simp
  | succ d ih =>
    intro k i hd hi hk hb
    obtain ⟨k, rfl, hk'⟩ := succ_of hk
    have hlt : i < l.length := by omega
    simp only [vergerref5_Put.l0]
    rw [if_pos (by omega), if_pos (by omega), refless_told, rd_get hlt]
    simp only [Option.bind_some]
    cases hc : ltE ⟨e0, e1⟩ l[i] with
    | true =>
      rw [if_pos rfl, if_pos (by omega)]
      rw [putE_at hi hb (fun a ha => by rw [List.getElem?_eq_getElem hlt] at ha; injection ha with ha; rw [← ha]; exact hc)]
      simp only [Int.toNat_natCast, Option.bind_some, List.length_nil, List.length_append, List.length_take, List.length_drop, List.length_cons, List.nil_append]
      rw [if_pos (by omega), if_pos (by omega), if_pos (by omega)]
      simp
    | false =>
      rw [if_neg (by simp), wrap_nat (by omega)]
      exact ih k (i + 1) (by omega) (by omega) (by omega) (fun j a hj ha => by
        by_cases hji : j < i
        · exact hb j a hji ha
        · have : j = i := by omega
          subst this
          rw [List.getElem?_eq_getElem hlt] at ha
          injection ha with ha
          rw [← ha]; exact hc)
theorem refput_told (k : Nat) (l : List E) (e0 e1 : Int) (hl : l.length < 1000000000) (hk : l.length < k) : vergerref5_Put.f k l e0 e1 = some (putE l ⟨e0, e1⟩) := by
  unfold vergerref5_Put.f
  exact refput_loop l e0 e1 hl l.length k 0 (by omega) (by omega) hk (fun j a hj => by omega)
theorem refsort_loop (l : List E) (hl : l.length < 1000000000) : ∀ (d k i : Nat), l.length - i = d → i ≤ l.length → d + l.length < k → vergerref5_Sort.l0 k l (sortE (l.take i)) (i : Int) = some (sortE l) := by
  intro d
  induction d with
  | zero =>
    intro k i hd hi hk
    obtain ⟨k, rfl, _⟩ := succ_of hk
    simp only [vergerref5_Sort.l0]
    rw [if_neg (by omega), List.take_of_length_le (by omega)]
  | succ d ih =>
    intro k i hd hi hk
    obtain ⟨k, rfl, hk'⟩ := succ_of hk
    have hlt : i < l.length := by omega
    have hs : (sortE (l.take i)).length = i := by rw [sortE_length, List.length_take]; omega
    simp only [vergerref5_Sort.l0]
    rw [if_pos (by omega), if_pos (by omega), rd_get hlt, refput_told k _ _ _ (by omega) (by omega)]
    simp only [Option.bind_some]
    rw [wrap_nat (by omega)]
    have : putE (sortE (l.take i)) ⟨(l[i]).f0, (l[i]).f1⟩ = sortE (l.take (i + 1)) := by
      rw [putE_sort]
      refine sortE_of_perm ?_
      rw [List.take_succ_eq_append_getElem hlt]
      exact (List.perm_append_singleton _ _).symm
    rw [this]
    exact ih k (i + 1) (by omega) (by omega) (by omega)
theorem refsort_told (k : Nat) (l : List E) (hl : l.length < 1000000000) (hk : 2 * l.length < k) : vergerref5_Sort.f k l = some (sortE l) := by
  unfold vergerref5_Sort.f
  have := refsort_loop l hl l.length k 0 (by omega) (by omega) (by omega)
  rwa [List.take_zero, sortE_nil] at this
theorem refmerge_told (k : Nat) (l m : List E) (hl : l.length + m.length < 1000000000) (hk : 2 * (l.length + m.length) < k) : vergerref5_Merge.f k l m = some (sortE (l ++ m)) := by
  unfold vergerref5_Merge.f
  simp only [Option.bind_some, List.length_nil, List.nil_append]
  rw [if_pos (by omega), if_pos (by omega), refsort_told k _ (by rw [List.length_append]; omega) (by rw [List.length_append]; omega)]
  rfl
end Go.Proofs.Ythcnpkkpjfigeaa.V
