-- a text of this work, without what this claim doesn't use (wip/shake.py)
import Derived.Test.YthcnpkkpjfigeaaKVP5
import Derived.Test.YthcnpkkpjfigeaaKVK
import Derived.Test.YthcnpkkpjfigeaaKVE33
import Derived.Test.YthcnpkkpjfigeaaKVPvergerlaw5
import Derived.Test.YthcnpkkpjfigeaaKVPvergerref5
import Derived.Test.YthcnpkkpjfigeaaKVPentry
set_option linter.unusedVariables false
set_option linter.unusedSimpArgs false
namespace Go.Proofs.Ythcnpkkpjfigeaa.V
open Go.RowKit Go.Proofs.YthcnpkkpjfigeaaW.PrintWords Go.Proofs.YthcnpkkpjfigeaaW.PrintLast Go.Proofs.YthcnpkkpjfigeaaW.PrintMore
theorem awake5 (k : Nat) (hk : 9 ≤ k) : vergerlaw5_awake.f k = some true := by
 obtain ⟨k, rfl⟩ : ∃ m, k = m + 9 := ⟨k - 9, by omega⟩
 have e1 : wrap64 (0 + 1) = 1 := wrap_id (by omega) (by omega)
 have e2 : wrap64 (1 + 1) = 2 := wrap_id (by omega) (by omega)
 unfold vergerlaw5_awake.f entry_Least.f
 simp only [entry_Least.l0]
 have r0 : rd_L5 ([[⟨5, 1⟩], [⟨3, 9⟩]] : List (List E)) 0 = [⟨5, 1⟩] := rfl
 have r1 : rd_L5 ([[⟨5, 1⟩], [⟨3, 9⟩]] : List (List E)) 1 = [⟨3, 9⟩] := rfl
 have q0 : rd_T33 ([⟨5, 1⟩] : List E) 0 = ⟨5, 1⟩ := rfl
 have q1 : rd_T33 ([⟨3, 9⟩] : List E) 0 = ⟨3, 9⟩ := rfl
 have t1 : ltE ⟨3, 9⟩ ⟨5, 1⟩ = true := by decide
 have e3 : wrap64 1 = 1 := wrap_id (by omega) (by omega)
 have e4 : wrap64 2 = 2 := wrap_id (by omega) (by omega)
 have t2 : ltE ⟨1, 1⟩ ⟨1, 2⟩ = true := by decide
 simp [e1, e2, e3, e4, r0, r1, q0, q1, less_told, t1, t2]
theorem rdL_nat (l : List (List E)) (i : Nat) (h : i < l.length) : rd_L5 l (i : Int) = l[i] := by
 unfold rd_L5; rw [Int.toNat_natCast]; simp [List.getD_eq_getElem?_getD, List.getElem?_eq_getElem h]
end Go.Proofs.Ythcnpkkpjfigeaa.V
