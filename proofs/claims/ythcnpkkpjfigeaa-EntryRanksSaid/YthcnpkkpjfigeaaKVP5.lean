-- a text of this work, without what this claim doesn't use (wip/shake.py)
import Derived.Test.YthcnpkkpjfigeaaKVOrd
import Derived.Test.YthcnpkkpjfigeaaKVPentry
import Derived.Test.YthcnpkkpjfigeaaKVPvergerref5
import Derived.Test.YthcnpkkpjfigeaaKVK
set_option linter.unusedVariables false
set_option linter.unusedSimpArgs false
namespace Go.Proofs.Ythcnpkkpjfigeaa.V
open Go.RowKit Go.Proofs.YthcnpkkpjfigeaaW.PrintWords Go.Proofs.YthcnpkkpjfigeaaW.PrintLast Go.Proofs.YthcnpkkpjfigeaaW.PrintMore
theorem wrap_id {i : Int} (h0 : -9223372036854775808 ≤ i) (h1 : i ≤ 9223372036854775807) : wrap64 i = i := by unfold wrap64; omega
theorem wrap_nat {n : Nat} (h : n ≤ 4611686018427387904) : wrap64 ((n : Int) + 1) = ((n + 1 : Nat) : Int) := by rw [wrap_id (by omega) (by omega)]; omega
theorem rd_nat (l : List E) (i : Nat) : rd_T33 l (i : Int) = l.getD i z33 := by unfold rd_T33; rw [Int.toNat_natCast]
theorem rd_get {l : List E} {i : Nat} (h : i < l.length) : rd_T33 l (i : Int) = l[i] := by rw [rd_nat]; simp [List.getD_eq_getElem?_getD, List.getElem?_eq_getElem h]
theorem succ_of {k n : Nat} (h : n < k) : ∃ m, k = m + 1 ∧ n ≤ m := ⟨k - 1, by omega, by omega⟩
def cmpE (a b : E) : Int := if ltE a b = true then -1 else if ltE b a = true then 1 else 0
theorem cmpE_neg (a b : E) : cmpE a b < 0 ↔ ltE a b = true := by
 unfold cmpE
 split
 · simp_all
 · split <;> simp_all
theorem compare_u (a b : Int) : cmp_Compare_uint64.f a b = some (if a < b then -1 else if a > b then 1 else 0) := by
 simp only [cmp_Compare_uint64.f, cmp_isNaN_uint64.f, Option.bind_some, bne_self_eq_false, Bool.false_eq_true, if_false]
 by_cases h1 : a < b
 · simp [h1]
 · by_cases h2 : a > b <;> simp [h1, h2]
theorem compare_i (a b : Int) : cmp_Compare_int.f a b = some (if a < b then -1 else if a > b then 1 else 0) := by
 simp only [cmp_Compare_int.f, cmp_isNaN_int.f, Option.bind_some, bne_self_eq_false, Bool.false_eq_true, if_false]
 by_cases h1 : a < b
 · simp [h1]
 · by_cases h2 : a > b <;> simp [h1, h2]
theorem or_two (k : Nat) (hk : 3 ≤ k) (x y : Int) : cmp_Or_int.f k [x, y] = some (if x = 0 then y else x) := by
 obtain ⟨k, rfl⟩ : ∃ m, k = m + 3 := ⟨k - 3, by omega⟩
 unfold cmp_Or_int.f
 have e1 : wrap64 (0 + 1) = 1 := wrap_id (by omega) (by omega)
 have e2 : wrap64 (1 + 1) = 2 := wrap_id (by omega) (by omega)
 have r0 : rd [x, y] 0 = x := rfl
 have r1 : rd [x, y] 1 = y := rfl
 simp only [cmp_Or_int.l0, List.length_cons, List.length_nil]
 rw [if_pos (by decide), if_pos (by decide), if_pos (by decide), r0]
 by_cases hx : x = 0
 · rw [if_pos hx, e1, if_pos (by decide), if_pos (by decide), if_pos (by decide), r1]
   by_cases hy : y = 0
   · rw [if_pos hy, e2, if_neg (by decide), if_pos hx, hy]
   · rw [if_neg hy, if_pos hx]
 · rw [if_neg hx, if_neg hx]
theorem compare_told (k : Nat) (hk : 3 ≤ k) (a b c d : Int) : entry_compare.f k a b c d = some (cmpE ⟨a, b⟩ ⟨c, d⟩) := by
 unfold entry_compare.f
 rw [compare_u, compare_i]
 simp only [Option.bind_some]
 rw [or_two k hk]
 simp only [Option.bind_some]
 congr 1
 unfold cmpE
 simp only [ltE, Bool.or_eq_true, Bool.and_eq_true, decide_eq_true_eq]
 by_cases h1 : a < c
 · simp [h1]
 · by_cases h2 : a > c
   · have h3 : ¬ a = c := by omega
     have h4 : c < a := h2
     simp [h1, h2, h3, h4]
   · have h3 : a = c := by omega
     subst h3
     by_cases h5 : b < d
     · simp [h5]
     · by_cases h6 : b > d
       · have h7 : d < b := h6
         simp [h5, h6, h7]
       · have h7 : ¬ d < b := h6
         simp [h5, h6, h7]
theorem less_told (k : Nat) (hk : 3 ≤ k) (a b c d : Int) : entry_Less.f k a b c d = some (ltE ⟨a, b⟩ ⟨c, d⟩) := by
 unfold entry_Less.f
 rw [compare_told k hk]
 simp only [Option.bind_some]
 congr 1
 have := cmpE_neg ⟨a, b⟩ ⟨c, d⟩
 cases h : ltE ⟨a, b⟩ ⟨c, d⟩ with
 | true => exact decide_eq_true (this.2 h)
 | false => exact decide_eq_false (fun h2 => by rw [this.1 h2] at h; cases h)
end Go.Proofs.Ythcnpkkpjfigeaa.V
