/- EntryLeast in plain words: the program's Least and the document's tell the same of any lists. -/
import Derived.Test.YthcnpkkpjfigeaaVP5
import Derived.Test.YthcnpkkpjfigeaaVPEntryLeastL
set_option linter.unusedVariables false
set_option linter.unusedSimpArgs false
namespace Go.Proofs.Ythcnpkkpjfigeaa.V
open Go.RowKit Go.Proofs.YthcnpkkpjfigeaaW.PrintWords Go.Proofs.YthcnpkkpjfigeaaW.PrintLast Go.Proofs.YthcnpkkpjfigeaaW.PrintMore

theorem awake5 (k : Nat) (hk : 9 ≤ k) : vergerlaw5_awake.f k = some true := by
  obtain ⟨k, rfl⟩ : ∃ m, k = m + 9 := ⟨k - 9, by omega⟩
  have e1 : wrap64 (0 + 1) = 1 := wrap_id (by omega) (by omega)
  have e2 : wrap64 (1 + 1) = 2 := wrap_id (by omega) (by omega)
  unfold vergerlaw5_awake.f entry_Least.f
  simp only [entry_Least.l0]
  have r0 : rd_L5 ([[⟨5, 1⟩], [⟨3, 9⟩]] : List (List E)) 0 = [⟨5, 1⟩] := rfl
  have r1 : rd_L5 ([[⟨5, 1⟩], [⟨3, 9⟩]] : List (List E)) 1 = [⟨3, 9⟩] := rfl
  have q0 : rd_T33 ([⟨5, 1⟩] : List E) 0 = ⟨5, 1⟩ := rfl
  have q1 : rd_T33 ([⟨3, 9⟩] : List E) 0 = ⟨3, 9⟩ := rfl
  have t1 : ltE ⟨3, 9⟩ ⟨5, 1⟩ = true := by decide
  have e3 : wrap64 1 = 1 := wrap_id (by omega) (by omega)
  have e4 : wrap64 2 = 2 := wrap_id (by omega) (by omega)
  have t2 : ltE ⟨1, 1⟩ ⟨1, 2⟩ = true := by decide
  simp [e1, e2, e3, e4, r0, r1, q0, q1, less_told, t1, t2]

theorem rdL_nat (l : List (List E)) (i : Nat) (h : i < l.length) : rd_L5 l (i : Int) = l[i] := by
  unfold rd_L5; rw [Int.toNat_natCast]; simp [List.getD_eq_getElem?_getD, List.getElem?_eq_getElem h]

/-- What both have found ahead of place i: nothing, or place a with its first entry. -/
inductive Found (l : List (List E)) (i : Nat) : Int → Bool → Int → Int → Int → Prop where
  | none : Found l i 0 false 0 0 (-1)
  | some (a : Nat) (ha : a < i) (hl : a < l.length) (e : E) (h : (l[a]).head? = Option.some e) : Found l i a true e.f0 e.f1 a

theorem head_rd {l : List E} {e : E} (h : l.head? = Option.some e) : rd_T33 l 0 = e ∧ 0 < l.length := by
  cases l with
  | nil => simp at h
  | cons b l => simp at h; subst h; exact ⟨rfl, by simp⟩
theorem least_same (l : List (List E)) (hl : l.length ≤ 100) : ∀ (d k i : Nat) (at1 : Int) (ok : Bool) (e0 e1 at2 : Int), l.length - i = d → i ≤ l.length → d + 5 ≤ k → Found l i at1 ok e0 e1 at2 →
    ∃ r, entry_Least.l0 k at1 ok l (l.length : Int) (i : Int) e0 e1 = some r ∧ vergerref5_Least.l0 k l at2 (i : Int) = some r := by
  intro d
  induction d with
  | zero =>
    intro k i at1 ok e0 e1 at2 hd hi hk hF
    obtain ⟨k, rfl, _⟩ := succ_of (show 0 < k by omega)
    have hn : ¬ (i : Int) < (l.length : Int) := by omega
    simp only [entry_Least.l0, vergerref5_Least.l0]
    rw [if_neg hn, if_neg hn]
    cases hF with
    | none => exact ⟨_, rfl, by rw [if_pos (by omega)]⟩
    | some a ha hla e h =>
      obtain ⟨h1, h2⟩ := head_rd h
      refine ⟨_, rfl, ?_⟩
      rw [if_neg (by omega), if_pos (by omega), if_pos (by omega), rdL_nat l a hla, if_pos (by omega), h1]
  | succ d ih =>
    intro k i at1 ok e0 e1 at2 hd hi hk hF
    obtain ⟨k, rfl, _⟩ := succ_of (show 0 < k by omega)
    have hlt : i < l.length := by omega
    have hz : (i : Int) < (l.length : Int) := by omega
    simp only [entry_Least.l0, vergerref5_Least.l0]
    have h0 : (0 : Int) ≤ (i : Int) := by omega
    simp only [if_pos hz, if_pos h0, rdL_nat l i hlt, wrap_nat (show i ≤ 4611686018427387904 by omega)]
    cases hc : l[i] with
    | nil =>
      simp only [List.length_nil, Int.natCast_zero, gt_iff_lt, Int.lt_irrefl, if_false]
      exact ih k (i + 1) _ _ _ _ _ (by omega) (by omega) (by omega) (by
        cases hF with
        | none => exact .none
        | some a ha hla e h => exact .some a (by omega) hla e h)
    | cons b m =>
      have hp : ((b :: m).length : Int) > 0 := by simp
      have hp' : 0 < ((b :: m).length : Int) := hp
      have hrd : rd_T33 (b :: m) 0 = b := rfl
      simp only [if_pos hp, if_pos hp', hrd]
      have new : Found l (i + 1) (i : Int) true b.f0 b.f1 (i : Int) := .some i (by omega) hlt b (by rw [hc]; rfl)
      cases hF with
      | none =>
        have hneg : (-1 : Int) < 0 := by omega
        simp only [if_pos hneg, Bool.false_eq_true, if_false]
        exact ih k (i + 1) _ _ _ _ _ (by omega) (by omega) (by omega) new
      | some a ha hla e h =>
        obtain ⟨h1, h2⟩ := head_rd h
        have h2' : 0 < (l[a].length : Int) := by omega
        have ha0 : ¬ (a : Int) < 0 := by omega
        have ha1 : (0 : Int) ≤ (a : Int) := by omega
        have ha2 : (a : Int) < (l.length : Int) := by omega
        simp only [if_neg ha0, if_pos ha1, if_pos ha2, rdL_nat l a hla, if_pos h2', h1, less_told k (show 3 ≤ k by omega), refless_told, Option.bind_some, if_true]
        cases ltE ⟨b.f0, b.f1⟩ ⟨e.f0, e.f1⟩ with
        | true =>
          simp only [if_true]
          exact ih k (i + 1) _ _ _ _ _ (by omega) (by omega) (by omega) new
        | false =>
          simp only [Bool.false_eq_true, if_false]
          exact ih k (i + 1) _ _ _ _ _ (by omega) (by omega) (by omega) (.some a (by omega) hla e h)

theorem least_loop (l : List (List E)) (hl : l.length ≤ 20) : ∀ (d k i : Nat), l.length - i = d → i ≤ l.length → 2 * d + 200 ≤ k → vergerlaw5_EntryLeast.l0 k l ((l.take i).map sortE) (i : Int) = some true := by
  intro d
  induction d with
  | zero =>
    intro k i hd hi hk
    obtain ⟨k, rfl, _⟩ := succ_of (show 0 < k by omega)
    simp only [vergerlaw5_EntryLeast.l0]
    rw [if_neg (by omega)]
    obtain ⟨r, h1, h2⟩ := least_same ((l.take i).map sortE) (by simp; omega) ((l.take i).map sortE).length k 0 0 false 0 0 (-1) (by omega) (by omega) (by simp; omega) .none
    unfold entry_Least.f vergerref5_Least.f
    rw [show ((0 : Nat) : Int) = 0 from rfl] at h1 h2
    rw [h1, h2]
    simp [awake5 k (by omega)]
  | succ d ih =>
    intro k i hd hi hk
    obtain ⟨k, rfl, _⟩ := succ_of (show 0 < k by omega)
    have hlt : i < l.length := by omega
    simp only [vergerlaw5_EntryLeast.l0]
    rw [if_pos (by omega), if_pos (by omega), rdL_nat l i hlt]
    by_cases hb : ((l[i]).length : Int) > 50
    · rw [if_pos hb, awake5 k (by omega)]; rfl
    · rw [if_neg hb, refsort_told k _ (by omega) (by omega)]
      simp only [Option.bind_some]
      rw [if_pos (by simp; omega), wrap_nat (by omega)]
      have : (l.take i).map sortE ++ [sortE l[i]] = (l.take (i + 1)).map sortE := by rw [List.take_succ_eq_append_getElem hlt, List.map_append]; rfl
      rw [this]
      exact ih k (i + 1) (by omega) (by omega) (by omega)

theorem EntryLeast_pure (l : List (List E)) (_h : l.length ≤ 9223372036854775807) (_g : ∀ x ∈ l, ∀ y ∈ x, (Lit.int .u64 y.f0).wf = true ∧ (Lit.int .i64 y.f1).wf = true) : ∃ k, vergerlaw5_EntryLeast.f k l = some true := by
  refine ⟨300, ?_⟩
  unfold vergerlaw5_EntryLeast.f
  by_cases hb : (l.length : Int) > 20
  · rw [if_pos hb, awake5 300 (by omega)]; rfl
  · rw [if_neg hb]
    have := least_loop l (by omega) l.length 300 0 (by omega) (by omega) (by omega)
    simpa using this
end Go.Proofs.Ythcnpkkpjfigeaa.V
