-- a text of this work, without what this claim doesn't use (wip/shake.py)
import Derived.Test.YtfhapffjnafkbaaTVPentry1
import Derived.Test.YtfhapffjnafkbaaTVPslices
import Derived.Test.YtfhapffjnafkbaaTVPvergerref51
import Derived.Test.YtfhapffjnafkbaaTVP5V
import Derived.Test.YtfhapffjnafkbaaTVPentry
import Derived.Test.YtfhapffjnafkbaaTVPslices2
import Derived.Test.YtfhapffjnafkbaaTVPcmp
import Derived.Test.YtfhapffjnafkbaaTVCall
import Derived.Test.YtfhapffjnafkbaaTVPslicesZb
import Derived.Test.YtfhapffjnafkbaaTVPentryZb
import Derived.Test.YtfhapffjnafkbaaTVPEntryTakesLb
import Derived.Test.YtfhapffjnafkbaaTVXInsert
import Derived.Test.YtfhapffjnafkbaaTWWords
import Derived.SizedLaws
import Derived.ChangeSlices
import Derived.WalkKit
import Derived.ProofKit
import Derived.OpenShut
import Derived.ShutString
import Derived.ChangeOld
import Derived.Below
import Derived.Deep.Slices
section
set_option linter.unusedVariables false
set_option linter.unusedSimpArgs false
namespace Go.Proofs.Ytfhapffjnafkbaa.V
open Go.RowKit Go.Proofs.YtfhapffjnafkbaaW.PrintWords Go.Proofs.YtfhapffjnafkbaaW.PrintLast Go.Proofs.YtfhapffjnafkbaaW.PrintMore
theorem same_loop (l : List E) (hl : l.length < 1000000000) : ∀ (d k i : Nat), l.length - i = d → i ≤ l.length → d < k → vergerref5_Same.l0 k l l (i : Int) = some true := by
 intro d
 induction d with
 | zero =>
  intro k i hd hi hk
  obtain ⟨k, rfl, _⟩ := succ_of hk
  simp only [vergerref5_Same.l0]
  rw [if_neg (by omega)]
 | succ d ih =>
  intro k i hd hi hk
  obtain ⟨k, rfl, hk'⟩ := succ_of hk
  have hz : (i : Int) < (l.length : Int) := by omega
  have h0 : (0 : Int) ≤ (i : Int) := by omega
  simp only [vergerref5_Same.l0, if_pos hz, if_pos h0, wrap_nat (show i ≤ 4611686018427387904 by omega)]
  rw [if_neg (by simp)]
  exact ih k (i + 1) (by omega) (by omega) (by omega)
theorem same_told (k : Nat) (l : List E) (hl : l.length < 1000000000) (hk : l.length < k) : vergerref5_Same.f k l l = some true := by
 unfold vergerref5_Same.f
 rw [if_pos rfl]
 exact same_loop l hl l.length k 0 (by omega) (by omega) hk
def downAt (l : List E) (j : Nat) : Bool := ltE (l.getD (j + 1) z33) (l.getD j z33)
def okTo (l : List E) : Nat → Bool
  | 0 => true
  | n + 1 => okTo l n && !downAt l n
theorem okTo_iff (l : List E) (n : Nat) : okTo l n = true ↔ ∀ j, j < n → downAt l j = false := by
 induction n with
 | zero => simp [okTo]
 | succ n ih =>
  simp only [okTo, Bool.and_eq_true, ih, Bool.not_eq_true']
  constructor
  · intro h j hj
    rcases Nat.lt_succ_iff_lt_or_eq.1 hj with h1 | h1
    · exact h.1 j h1
    · subst h1; exact h.2
  · intro h
    exact ⟨fun j hj => h j (by omega), h n (by omega)⟩
theorem issorted_loop (l : List E) (hl : l.length < 1000000000) : ∀ (i k : Nat), i < l.length → i + 4 ≤ k → api_Entry_50.l0 k l (i : Int) = some (okTo l i) := by
 intro i
 induction i with
 | zero =>
  intro k hi hk
  obtain ⟨k, rfl, _⟩ := succ_of (show 0 < k by omega)
  simp only [api_Entry_50.l0]
  rw [if_neg (by omega)]
  rfl
 | succ i ih =>
  intro k hi hk
  obtain ⟨k, rfl, _⟩ := succ_of (show 0 < k by omega)
  have h0 : ((i + 1 : Nat) : Int) > 0 := by omega
  have h1 : (0 : Int) ≤ ((i + 1 : Nat) : Int) := by omega
  have h2 : ((i + 1 : Nat) : Int) < (l.length : Int) := by omega
  have hw : wrap64 (((i + 1 : Nat) : Int) - 1) = (i : Int) := by rw [wsub1 (by omega) (by omega)]; omega
  have h3 : (0 : Int) ≤ (i : Int) := by omega
  have h4 : (i : Int) < (l.length : Int) := by omega
  simp only [api_Entry_50.l0, if_pos h0, if_pos h1, if_pos h2, hw, if_pos h3, if_pos h4, compare_told k (show 3 ≤ k by omega), Option.bind_some, rd_nat]
  by_cases hc : downAt l i = true
  · rw [if_pos ((cmpE_neg _ _).2 hc)]
    simp only [okTo, hc]
    simp
  · rw [if_neg (fun h => hc ((cmpE_neg _ _).1 h)), ih k (by omega) (by omega)]
    simp only [okTo]
    simp [hc]
theorem issorted_told (k : Nat) (l : List E) (hl : l.length < 1000000000) (hk : l.length + 4 ≤ k) : entry_Sorted.f k l = some (okTo l (l.length - 1)) := by
 unfold entry_Sorted.f api_Entry_50.f
 by_cases hn : l.length = 0
 · rw [hn]
   obtain ⟨k, rfl, _⟩ := succ_of (show 0 < k by omega)
   have hw : wrap64 (((0 : Nat) : Int) - 1) = -1 := wrap_id (by omega) (by omega)
   rw [hw]
   simp [api_Entry_50.l0, okTo]
 · rw [wsub1 (by omega) (by omega), issorted_loop l hl (l.length - 1) k (by omega) (by omega)]
   rfl
theorem okTo_sorted {l : List E} (h : SortedE l) : okTo l (l.length - 1) = true := by
 rw [okTo_iff]
 intro j hj
 unfold downAt
 have h1 : j + 1 < l.length := by omega
 have h2 : j < l.length := by omega
 simp only [List.getD_eq_getElem?_getD, List.getElem?_eq_getElem h1, List.getElem?_eq_getElem h2, Option.getD_some]
 have := sorted_get h (show j < j + 1 by omega) (List.getElem?_eq_getElem h2) (List.getElem?_eq_getElem h1)
 simpa [leE] using this
end Go.Proofs.Ytfhapffjnafkbaa.V
end
section
set_option linter.unusedVariables false
set_option linter.unusedSimpArgs false
namespace Go.Proofs.Ytfhapffjnafkbaa.V
open Go.RowKit Go.Proofs.YtfhapffjnafkbaaW.PrintWords Go.Proofs.YtfhapffjnafkbaaW.PrintLast Go.Proofs.YtfhapffjnafkbaaW.PrintMore
theorem less_told (k : Nat) (hk : 3 ≤ k) (a b c d : Int) : entry_Less.f k a b c d = some (ltE ⟨a, b⟩ ⟨c, d⟩) := by
 unfold entry_Less.f
 rw [compare_told k hk]
 simp only [Option.bind_some]
 congr 1
 have := cmpE_neg ⟨a, b⟩ ⟨c, d⟩
 cases h : ltE ⟨a, b⟩ ⟨c, d⟩ with
 | true => exact decide_eq_true (this.2 h)
 | false => exact decide_eq_false (fun h2 => by rw [this.1 h2] at h; cases h)
end Go.Proofs.Ytfhapffjnafkbaa.V
end
section
set_option linter.unusedVariables false
set_option linter.unusedSimpArgs false
namespace Go.Proofs.Ytfhapffjnafkbaa.V
open Go.RowKit Go.Proofs.YtfhapffjnafkbaaW.PrintWords Go.Proofs.YtfhapffjnafkbaaW.PrintLast Go.Proofs.YtfhapffjnafkbaaW.PrintMore
theorem place_loop (l : List E) (hs : SortedE l) (hl : l.length < 1000000000) (e0 e1 : Int) : ∀ (d k lo hi : Nat), hi - lo ≤ d → lo ≤ placeE l ⟨e0, e1⟩ → placeE l ⟨e0, e1⟩ ≤ hi → hi ≤ l.length → d + 4 ≤ k →
 ∃ f, api_Entry_51.l0 k l (l.length : Int) (lo : Int) (hi : Int) e0 e1 = some (((placeE l ⟨e0, e1⟩ : Nat) : Int), f) := by
 intro d
 induction d with
 | zero =>
  intro k lo hi hd h1 h2 h3 hk
  obtain ⟨k, rfl, _⟩ := succ_of (show 0 < k by omega)
  have : lo = placeE l ⟨e0, e1⟩ := by omega
  simp only [api_Entry_51.l0]
  rw [if_neg (by omega)]
  by_cases hc : (lo : Int) < (l.length : Int)
  · rw [if_pos hc, if_pos (by omega), if_pos hc, compare_told k (by omega)]
    exact ⟨_, by simp only [Option.bind_some]; rw [this]⟩
  · rw [if_neg hc, this]
    exact ⟨_, rfl⟩
 | succ d ih =>
  intro k lo hi hd h1 h2 h3 hk
  by_cases hlt : lo < hi
  · obtain ⟨k, rfl, _⟩ := succ_of (show 0 < k by omega)
    have hm : (lo + hi) / 2 < l.length := by omega
    have hz : (lo : Int) < (hi : Int) := by omega
    have hm0 : (0 : Int) ≤ (((lo + hi) / 2 : Nat) : Int) := by omega
    have hm1 : (((lo + hi) / 2 : Nat) : Int) < (l.length : Int) := by omega
    simp only [api_Entry_51.l0, if_pos hz, whalf (show lo + hi < 4611686018427387904 by omega), if_pos hm0, if_pos hm1, rd_get hm, compare_told k (show 3 ≤ k by omega), Option.bind_some, wrap_nat (show (lo + hi) / 2 ≤ 4611686018427387904 by omega)]
    have hp := placeE_sorted hs ⟨e0, e1⟩ ((lo + hi) / 2) _ (List.getElem?_eq_getElem hm)
    rw [show (⟨(l[(lo + hi) / 2]).f0, (l[(lo + hi) / 2]).f1⟩ : E) = l[(lo + hi) / 2] from rfl]
    by_cases hc : ltE l[(lo + hi) / 2] ⟨e0, e1⟩ = true
    · rw [if_pos ((cmpE_neg _ _).2 hc)]
      have := hp.1 hc
      exact ih k ((lo + hi) / 2 + 1) hi (by omega) (by omega) (by omega) (by omega) (by omega)
    · rw [if_neg (fun h => hc ((cmpE_neg _ _).1 h))]
      have : ¬ (lo + hi) / 2 < placeE l ⟨e0, e1⟩ := fun h => hc (hp.2 h)
      exact ih k lo ((lo + hi) / 2) (by omega) (by omega) (by omega) (by omega) (by omega)
  · exact ih k lo hi (by omega) h1 h2 h3 (by omega)
theorem place_told (k : Nat) (l : List E) (hs : SortedE l) (e0 e1 : Int) (hl : l.length < 1000000000) (hk : l.length + 4 ≤ k) : entry_Place.f k l e0 e1 = some ((placeE l ⟨e0, e1⟩ : Nat) : Int) := by
 obtain ⟨f, hf⟩ := place_loop l hs hl e0 e1 l.length k 0 l.length (by omega) (by omega) (placeE_le _ _) (by omega) hk
 unfold entry_Place.f api_Entry_51.f
 rw [show ((0 : Nat) : Int) = 0 from rfl] at hf
 rw [hf]
 rfl
theorem afterE_sorted {l : List E} (h : SortedE l) (e : E) : ∀ (i : Nat) (a : E), l[i]? = some a → (leE a e = true ↔ i < l.countP fun x => leE x e) := by
 induction l with
 | nil => intro i a ha; simp at ha
 | cons b l ih =>
  obtain ⟨hb, hs⟩ := sorted_cons.1 h
  intro i a ha
  cases i with
  | zero =>
   obtain rfl : b = a := by simpa using ha
   rw [List.countP_cons]
   by_cases hc : leE b e = true
   · simp [hc]
   · have h0 : l.countP (fun x => leE x e) = 0 := by
      rw [List.countP_eq_zero]
      intro x hx hxe
      exact hc (leE_trans _ _ _ (hb x hx) hxe)
     simp [hc, h0]
  | succ i =>
   have ha' : l[i]? = some a := by simpa using ha
   rw [List.countP_cons]
   by_cases hc : leE b e = true
   · rw [if_pos hc, ih hs i a ha']; omega
   · have h0 : l.countP (fun x => leE x e) = 0 := by
      rw [List.countP_eq_zero]
      intro x hx hxe
      exact hc (leE_trans _ _ _ (hb x hx) hxe)
     rw [ih hs i a ha']
     simp [hc, h0]
theorem putfn_told (k : Nat) (hk : 3 ≤ k) (a b c d : Int) : entry_Put_1.f k a b c d = some (if 0 < cmpE ⟨a, b⟩ ⟨c, d⟩ then 1 else -1) := by
 unfold entry_Put_1.f
 rw [compare_told k hk]
 simp only [Option.bind_some, gt_iff_lt]
 split <;> rfl
theorem putfn_neg (a b : E) : (if 0 < cmpE a b then (1 : Int) else -1) < 0 ↔ leE a b = true := by
 have := cmpE_pos a b
 by_cases h : 0 < cmpE a b
 · rw [if_pos h]; simp [leE, this.1 h]
 · rw [if_neg h]
   have : ltE b a = false := by
    cases hc : ltE b a with
    | false => rfl
    | true => exact absurd (this.2 hc) h
   simp [leE, this]
theorem putat_loop (l : List E) (hs : SortedE l) (hl : l.length < 1000000000) (e0 e1 : Int) : ∀ (d k lo hi : Nat), hi - lo ≤ d → lo ≤ (l.countP fun x => leE x ⟨e0, e1⟩) → (l.countP fun x => leE x ⟨e0, e1⟩) ≤ hi → hi ≤ l.length → d + 4 ≤ k →
 ∃ f, slices_BinarySearchFunc_Put.l0 k l (l.length : Int) (lo : Int) (hi : Int) e0 e1 = some (((l.countP fun x => leE x ⟨e0, e1⟩ : Nat) : Int), f) := by
 intro d
 induction d with
 | zero =>
  intro k lo hi hd h1 h2 h3 hk
  obtain ⟨k, rfl, _⟩ := succ_of (show 0 < k by omega)
  have : lo = l.countP fun x => leE x ⟨e0, e1⟩ := by omega
  simp only [slices_BinarySearchFunc_Put.l0]
  rw [if_neg (by omega)]
  by_cases hc : (lo : Int) < (l.length : Int)
  · rw [if_pos hc, if_pos (by omega), if_pos hc, putfn_told k (by omega)]
    exact ⟨_, by simp only [Option.bind_some]; rw [this]⟩
  · rw [if_neg hc, this]
    exact ⟨_, rfl⟩
 | succ d ih =>
  intro k lo hi hd h1 h2 h3 hk
  by_cases hlt : lo < hi
  · obtain ⟨k, rfl, _⟩ := succ_of (show 0 < k by omega)
    have hm : (lo + hi) / 2 < l.length := by omega
    have hz : (lo : Int) < (hi : Int) := by omega
    have hm0 : (0 : Int) ≤ (((lo + hi) / 2 : Nat) : Int) := by omega
    have hm1 : (((lo + hi) / 2 : Nat) : Int) < (l.length : Int) := by omega
    simp only [slices_BinarySearchFunc_Put.l0, if_pos hz, whalf (show lo + hi < 4611686018427387904 by omega), if_pos hm0, if_pos hm1, rd_get hm, putfn_told k (show 3 ≤ k by omega), Option.bind_some, wrap_nat (show (lo + hi) / 2 ≤ 4611686018427387904 by omega)]
    have hp := afterE_sorted hs ⟨e0, e1⟩ ((lo + hi) / 2) _ (List.getElem?_eq_getElem hm)
    rw [show (⟨(l[(lo + hi) / 2]).f0, (l[(lo + hi) / 2]).f1⟩ : E) = l[(lo + hi) / 2] from rfl]
    by_cases hc : leE l[(lo + hi) / 2] ⟨e0, e1⟩ = true
    · rw [if_pos ((putfn_neg _ _).2 hc)]
      have := hp.1 hc
      exact ih k ((lo + hi) / 2 + 1) hi (by omega) (by omega) (by omega) (by omega) (by omega)
    · rw [if_neg (fun h => hc ((putfn_neg _ _).1 h))]
      have : ¬ (lo + hi) / 2 < l.countP fun x => leE x ⟨e0, e1⟩ := fun h => hc (hp.2 h)
      exact ih k lo ((lo + hi) / 2) (by omega) (by omega) (by omega) (by omega) (by omega)
  · exact ih k lo hi (by omega) h1 h2 h3 (by omega)
def putAt (l : List E) (e : E) : Nat := l.countP fun x => leE x e
theorem putAt_le (l : List E) (e : E) : putAt l e ≤ l.length := List.countP_le_length
theorem putat_told (k : Nat) (l : List E) (hs : SortedE l) (e0 e1 : Int) (hl : l.length < 1000000000) (hk : l.length + 4 ≤ k) : ∃ f, slices_BinarySearchFunc_Put.f k l e0 e1 = some (((putAt l ⟨e0, e1⟩ : Nat) : Int), f) := by
 obtain ⟨f, hf⟩ := putat_loop l hs hl e0 e1 l.length k 0 l.length (by omega) (by omega) List.countP_le_length (by omega) hk
 exact ⟨f, hf⟩
theorem putAt_put {l : List E} (hs : SortedE l) (e : E) : putE l e = l.take (putAt l e) ++ e :: l.drop (putAt l e) := by
 refine putE_at (putAt_le l e) (fun j a hj ha => ?_) (fun a ha => ?_)
 · have := (afterE_sorted hs e j a ha).2 hj
   simpa [leE] using this
 · have := afterE_sorted hs e _ a ha
   cases hc : ltE e a with
   | true => rfl
   | false =>
    have h2 := this.1 (by simp [leE, hc])
    exact absurd h2 (Nat.lt_irrefl _)
end Go.Proofs.Ytfhapffjnafkbaa.V
end
section
set_option linter.unusedVariables false
set_option linter.unusedSimpArgs false
namespace Go.Proofs.Ytfhapffjnafkbaa.V
open Go.RowKit Go.Proofs.YtfhapffjnafkbaaW.PrintWords Go.Proofs.YtfhapffjnafkbaaW.PrintLast Go.Proofs.YtfhapffjnafkbaaW.PrintMore
theorem concat_told (k : Nat) (hk : 10 ≤ k) (l m : List E) (hl : l.length + m.length < 1000000000) : api_Entry_56.f k [l, m] = some (l ++ m) := by
 obtain ⟨k, rfl⟩ : ∃ q, k = q + 10 := ⟨k - 10, by omega⟩
 have r0 : rd_L5 [l, m] 0 = l := rfl
 have r1 : rd_L5 [l, m] 1 = m := rfl
 have e1 : wrap64 (0 + 1) = 1 := wrap_id (by omega) (by omega)
 have e2 : wrap64 (1 + 1) = 2 := wrap_id (by omega) (by omega)
 have s1 : wrap64 (0 + (l.length : Int)) = (l.length : Int) := by rw [wrap_id (by omega) (by omega)]; omega
 have s2 : wrap64 ((l.length : Int) + (m.length : Int)) = ((l.length + m.length : Nat) : Int) := wadd (by omega)
 have n1 : ¬ (l.length : Int) < 0 := by omega
 have n2 : ¬ ((l.length + m.length : Nat) : Int) < 0 := by omega
 have n3 : (0 : Int) < (([l, m] : List (List E)).length : Int) := by simp
 have n4 : (1 : Int) < (([l, m] : List (List E)).length : Int) := by simp
 have n5 : ¬ (2 : Int) < (([l, m] : List (List E)).length : Int) := by simp
 have z1 : (0 : Int) ≤ 1 := by decide
 have z0 : (0 : Int) ≤ 0 := by decide
 have g : api_Entry_63.f [] ((l.length + m.length : Nat) : Int) = some [] := if_pos ⟨rfl, by omega, by omega⟩
 have b1 : ([] : List E).length + l.length < 8796093022208 := by simp; omega
 have b2 : (([] : List E) ++ l).length + m.length < 8796093022208 := by simp; omega
 unfold api_Entry_56.f
 simp only [api_Entry_56.l0, if_pos n3, if_pos n4, if_neg n5, if_pos z0, if_pos z1, r0, r1, s1, if_neg n1, e1, s2, if_neg n2, e2, g, Option.bind_some, api_Entry_56.l1, if_pos b1, if_pos b2]
 simp
end Go.Proofs.Ytfhapffjnafkbaa.V
end
section
set_option linter.unusedVariables false
set_option linter.unusedSimpArgs false
namespace Go.Proofs.Ytfhapffjnafkbaa.V
open Go.RowKit Go.Proofs.YtfhapffjnafkbaaW.PrintWords Go.Proofs.YtfhapffjnafkbaaW.PrintLast Go.Proofs.YtfhapffjnafkbaaW.PrintMore
def fstId (l : List E) (id : Int) : Nat := l.findIdx fun e => e.f1 == id
def dropE (l : List E) (id : Int) : List E := l.take (fstId l id) ++ l.drop (fstId l id + 1)
theorem fstId_le (l : List E) (id : Int) : fstId l id ≤ l.length := List.findIdx_le_length
theorem fstId_at {l : List E} {id : Int} {i : Nat} (hi : i < l.length) (hle : i ≤ fstId l id) (h : (l[i]).f1 = id) : fstId l id = i := by
 rcases Nat.lt_or_ge i (fstId l id) with hlt | hge
 · have := List.not_of_lt_findIdx hlt
   simp [h] at this
 · omega
theorem fstId_past {l : List E} {id : Int} {i : Nat} (hi : i < l.length) (hle : i ≤ fstId l id) (h : ¬ (l[i]).f1 = id) : i + 1 ≤ fstId l id := by
 rcases Nat.lt_or_ge i (fstId l id) with hlt | hge
 · exact hlt
 · have he : fstId l id = i := by omega
   have h2 := (List.findIdx_eq hi).1 (show l.findIdx (fun e => e.f1 == id) = i from he)
   exact absurd (by simpa using h2.1) h
theorem dropE_none {l : List E} {id : Int} (h : fstId l id = l.length) : dropE l id = l := by
 unfold dropE
 rw [h, List.take_length, List.drop_of_length_le (by omega), List.append_nil]
theorem has_loop (l : List E) (id : Int) (hl : l.length < 1000000000) : ∀ (d k i : Nat), l.length - i = d → i ≤ fstId l id → d < k → vergerref5_Has.l0 k l id (i : Int) = some (decide (fstId l id < l.length)) := by
 have hfl := fstId_le l id
 intro d
 induction d with
 | zero =>
  intro k i hd hi hk
  obtain ⟨k, rfl, _⟩ := succ_of hk
  simp only [vergerref5_Has.l0]
  rw [if_neg (by omega), decide_eq_false (by omega)]
 | succ d ih =>
  intro k i hd hi hk
  obtain ⟨k, rfl, hk'⟩ := succ_of hk
  have hlt : i < l.length := by omega
  have hz : (i : Int) < (l.length : Int) := by omega
  have h0 : (0 : Int) ≤ (i : Int) := by omega
  simp only [vergerref5_Has.l0, if_pos hz, if_pos h0, rd_get hlt, wrap_nat (show i ≤ 4611686018427387904 by omega)]
  by_cases hc : (l[i]).f1 = id
  · rw [if_pos hc, fstId_at hlt hi hc, decide_eq_true hlt]
  · rw [if_neg hc]
    exact ih k (i + 1) (by omega) (fstId_past hlt hi hc) (by omega)
theorem has_told (k : Nat) (l : List E) (id : Int) (hl : l.length < 1000000000) (hk : l.length < k) : vergerref5_Has.f k l id = some (decide (fstId l id < l.length)) := by
 have := has_loop l id hl l.length k 0 (by omega) (by omega) hk
 unfold vergerref5_Has.f
 exact this
theorem fstId_iff (l : List E) (id : Int) : fstId l id < l.length ↔ ∃ e ∈ l, e.f1 = id := by
 unfold fstId
 rw [List.findIdx_lt_length]
 simp
end Go.Proofs.Ytfhapffjnafkbaa.V
end
section
set_option linter.unusedVariables false
set_option linter.unusedSimpArgs false
namespace Go.Proofs.Ytfhapffjnafkbaa.V
open Go.RowKit Go.Proofs.YtfhapffjnafkbaaW.PrintWords Go.Proofs.YtfhapffjnafkbaaW.PrintLast Go.Proofs.YtfhapffjnafkbaaW.PrintMore
theorem awake5 (k : Nat) (hk : 9 ≤ k) : vergerlaw5_awake.f k = some true := by
 obtain ⟨k, rfl⟩ : ∃ m, k = m + 9 := ⟨k - 9, by omega⟩
 have e1 : wrap64 (0 + 1) = 1 := wrap_id (by omega) (by omega)
 have e2 : wrap64 (1 + 1) = 2 := wrap_id (by omega) (by omega)
 unfold vergerlaw5_awake.f entry_Least.f
 simp only [entry_Least.l0]
 have r0 : rd_L5 ([[⟨5, 1⟩], [⟨3, 9⟩]] : List (List E)) 0 = [⟨5, 1⟩] := rfl
 have r1 : rd_L5 ([[⟨5, 1⟩], [⟨3, 9⟩]] : List (List E)) 1 = [⟨3, 9⟩] := rfl
 have q0 : rd_T33 ([⟨5, 1⟩] : List E) 0 = ⟨5, 1⟩ := rfl
 have q1 : rd_T33 ([⟨3, 9⟩] : List E) 0 = ⟨3, 9⟩ := rfl
 have t1 : ltE ⟨3, 9⟩ ⟨5, 1⟩ = true := by decide
 have e3 : wrap64 1 = 1 := wrap_id (by omega) (by omega)
 have e4 : wrap64 2 = 2 := wrap_id (by omega) (by omega)
 have t2 : ltE ⟨1, 1⟩ ⟨1, 2⟩ = true := by decide
 simp [e1, e2, e3, e4, r0, r1, q0, q1, less_told, t1, t2]
end Go.Proofs.Ytfhapffjnafkbaa.V
end
section
set_option linter.unusedVariables false
set_option linter.unusedSimpArgs false
namespace Go.Proofs.Ytfhapffjnafkbaa.V
open Go.RowKit Go.Proofs.YtfhapffjnafkbaaW.PrintWords Go.Proofs.YtfhapffjnafkbaaW.PrintLast Go.Proofs.YtfhapffjnafkbaaW.PrintMore
theorem put_told (k : Nat) (l : List E) (hs : SortedE l) (e0 e1 : Int) (hl : l.length < 1000000000) (hk : l.length + 4 ≤ k) : entry_Put.f k l e0 e1 = some (putE l ⟨e0, e1⟩) := by
 obtain ⟨f, hf⟩ := putat_told k l hs e0 e1 hl hk
 unfold entry_Put.f
 rw [hf]
 simp only [Option.bind_some, api_Entry_47.f, api_Entry_53.f, api_Entry_43.f]
 have hp := putAt_le l ⟨e0, e1⟩
 rw [if_pos (by omega)]
 simp only [Option.bind_some]
 rw [if_pos ⟨by omega, by omega, hl, rfl⟩]
 simp only [Option.bind_some, Int.toNat_natCast]
 rw [putAt_put hs ⟨e0, e1⟩]
 simp
theorem index_loop (l : List E) (id : Int) (hl : l.length < 1000000000) : ∀ (d k i : Nat), l.length - i = d → i ≤ fstId l id → d + 2 ≤ k →
 api_Entry_54.l0 id k l (l.length : Int) (i : Int) = some (if fstId l id < l.length then (fstId l id : Int) else -1) := by
 have hfl := fstId_le l id
 intro d
 induction d with
 | zero =>
  intro k i hd hi hk
  obtain ⟨k, rfl, _⟩ := succ_of (show 0 < k by omega)
  simp only [api_Entry_54.l0]
  rw [if_neg (by omega), if_neg (by omega)]
 | succ d ih =>
  intro k i hd hi hk
  obtain ⟨k, rfl, _⟩ := succ_of (show 0 < k by omega)
  have hlt : i < l.length := by omega
  have hz : (i : Int) < (l.length : Int) := by omega
  have h0 : (0 : Int) ≤ (i : Int) := by omega
  simp only [api_Entry_54.l0, if_pos hz, if_pos h0, rd_get hlt, entry_Drop_1.f, Option.bind_some, wrap_nat (show i ≤ 4611686018427387904 by omega), beq_iff_eq]
  by_cases hc : (l[i]).f1 = id
  · rw [if_pos hc, fstId_at hlt hi hc, if_pos hlt]
  · rw [if_neg hc]
    exact ih k (i + 1) (by omega) (fstId_past hlt hi hc) (by omega)
theorem index_told (k : Nat) (l : List E) (id : Int) (hl : l.length < 1000000000) (hk : l.length + 2 ≤ k) : api_Entry_54.f k l id = some (if fstId l id < l.length then (fstId l id : Int) else -1) := by
 have := index_loop l id hl l.length k 0 (by omega) (by omega) hk
 unfold api_Entry_54.f
 exact this
theorem drop_told (k : Nat) (l : List E) (id : Int) (hl : l.length < 1000000000) (hk : l.length + 10 ≤ k) : entry_Drop.f k l id = some (dropE l id, decide (fstId l id < l.length)) := by
 have hfl := fstId_le l id
 unfold entry_Drop.f
 rw [index_told k l id hl (by omega)]
 simp only [Option.bind_some]
 by_cases hc : fstId l id < l.length
 · rw [if_pos hc, if_neg (by omega), if_pos (by omega), if_pos (by omega), wrap_nat (by omega), if_pos (by omega), if_pos (by omega)]
   simp only [Int.toNat_natCast]
   rw [concat_told k (by omega) _ _ (by rw [List.length_take, List.length_drop]; omega)]
   simp only [Option.bind_some, decide_eq_true hc]
   rfl
 · rw [if_neg hc, if_pos (by omega)]
   simp only [api_Entry_47.f, api_Entry_43.f]
   rw [if_pos (by omega)]
   simp only [Option.bind_some, decide_eq_false hc]
   rw [dropE_none (by omega)]
end Go.Proofs.Ytfhapffjnafkbaa.V
end
section
set_option linter.unusedVariables false
set_option linter.unusedSimpArgs false
namespace Go.Proofs.Ytfhapffjnafkbaa.V
open Go.RowKit Go.Proofs.YtfhapffjnafkbaaW.PrintWords Go.Proofs.YtfhapffjnafkbaaW.PrintLast Go.Proofs.YtfhapffjnafkbaaW.PrintMore
theorem sortT_some {l : List E} (h : l.length < 1000000000) : entry_Sort.f l = some (sortE l) := if_pos h
theorem place_putAt {l : List E} {e : E} (h : ∀ x ∈ l, x.f1 ≠ e.f1) : placeE l e = putAt l e := by
 unfold placeE putAt
 refine List.countP_congr fun x hx => ?_
 have hne : x ≠ e := fun hh => h x hx (by rw [hh])
 constructor
 · exact leE_of_ltE
 · intro hh; exact ltE_of_leE_ne hh hne
theorem fstId_put {l : List E} {e : E} (hs : SortedE l) (h : ∀ x ∈ l, x.f1 ≠ e.f1) : fstId (putE l e) e.f1 = putAt l e ∧ dropE (putE l e) e.f1 = l := by
 have hp := putAt_put hs e
 have hle := putAt_le l e
 have h1 : (l.take (putAt l e)).length = putAt l e := by rw [List.length_take]; omega
 have hf : fstId (putE l e) e.f1 = putAt l e := by
  unfold fstId
  rw [hp]
  rw [List.findIdx_eq (by simp; omega)]
  refine ⟨by simp [List.getElem_append_right, h1], fun j hj => ?_⟩
  rw [List.getElem_append_left (by omega)]
  have := h _ (List.mem_of_mem_take (List.getElem_mem (l := l.take (putAt l e)) (n := j) (by omega)))
  simpa using this
 refine ⟨hf, ?_⟩
 unfold dropE
 rw [hf, hp, List.take_append_of_le_length (by omega), List.take_of_length_le (by omega), List.drop_append, h1]
 rw [List.drop_of_length_le (by omega)]
 rw [show putAt l e + 1 - putAt l e = 1 by omega]
 simp
theorem sort_ids {l : List E} {id : Int} (h : ¬ fstId l id < l.length) : ∀ x ∈ sortE l, x.f1 ≠ id := by
 intro x hx he
 exact h ((fstId_iff l id).2 ⟨x, sortE_mem.1 hx, he⟩)
theorem takes_j1 (k : Nat) (hk : 300 ≤ k) (s : List E) (e0 e1 : Int) (hl : s.length ≤ 100) (hs : SortedE s) (hids : ∀ x ∈ s, x.f1 ≠ e1) : vergerlaw5_EntryTakes.j1 k s (putE s ⟨e0, e1⟩) false e0 e1 = some true := by
 obtain ⟨k, rfl, _⟩ := succ_of (show 299 < k by omega)
 obtain ⟨hf, hd⟩ := fstId_put (e := ⟨e0, e1⟩) hs hids
 have hpl := putE_length s ⟨e0, e1⟩
 have hle := putAt_le s ⟨e0, e1⟩
 have hns : ¬ fstId s e1 < s.length := fun h => by
  obtain ⟨x, hx, hx1⟩ := (fstId_iff _ _).1 h
  exact hids x hx hx1
 simp only at hf hd
 have d1 := drop_told k (putE s ⟨e0, e1⟩) e1 (by omega) (by omega)
 rw [hd, hf, decide_eq_true (show putAt s ⟨e0, e1⟩ < (putE s ⟨e0, e1⟩).length by omega)] at d1
 have d2 := drop_told k s e1 (by omega) (by omega)
 rw [decide_eq_false hns] at d2
 have d3 := same_told k s (by omega) (by omega)
 have d4 := awake5 k (by omega)
 generalize putE s ⟨e0, e1⟩ = p at d1
 simp only [vergerlaw5_EntryTakes.j1, Bool.false_eq_true, if_false, d1, d2, Option.bind_some, if_true, d3, d4]
theorem takes_get (s : List E) (e : E) (hs : SortedE s) : rd_T33 (putE s e) ((putAt s e : Nat) : Int) = e := by
 have hle := putAt_le s e
 rw [putAt_put hs e]
 exact rd_at rfl (by rw [List.length_take]; omega)
theorem EntryTakes_core (k : Nat) (hk : 400 ≤ k) (l : List E) (e0 e1 : Int) (hl : l.length ≤ 100) (hn : ¬ fstId l e1 < l.length) : vergerlaw5_EntryTakes.j0 k l false e0 e1 = some true := by
 obtain ⟨k, rfl, _⟩ := succ_of (show 399 < k by omega)
 have hs := sortE_sorted l
 have hsl := sortE_length l
 have hids := sort_ids hn
 have hj := takes_j1 k (by omega) (sortE l) e0 e1 (by omega) hs hids
 have hpl := putE_length (sortE l) ⟨e0, e1⟩
 have hpe := place_putAt (l := sortE l) (e := ⟨e0, e1⟩) hids
 have hle := putAt_le (sortE l) ⟨e0, e1⟩
 have d1 := sortT_some (l := l) (by omega)
 have d2 := put_told k (sortE l) hs e0 e1 (by omega) (by omega)
 have d3 := place_told k (sortE l) hs e0 e1 (by omega) (by omega)
 rw [hpe] at d3
 have d4 := issorted_told k (putE (sortE l) ⟨e0, e1⟩) (by omega) (by omega)
 rw [okTo_sorted (putE_sorted hs ⟨e0, e1⟩)] at d4
 have d5 := takes_get (sortE l) ⟨e0, e1⟩ hs
 have hw : wrap64 (((sortE l).length : Int) + 1) = (((sortE l).length + 1 : Nat) : Int) := wrap_nat (by omega)
 generalize putE (sortE l) ⟨e0, e1⟩ = p at *
 generalize putAt (sortE l) ⟨e0, e1⟩ = n at *
 generalize sortE l = s at *
 have c1 : (p.length : Int) = (((s.length + 1 : Nat)) : Int) := by omega
 have c2 : ¬ ((n : Int) > (s.length : Int)) := by omega
 have c3 : (0 : Int) ≤ (n : Int) := by omega
 have c4 : (n : Int) < (p.length : Int) := by omega
 have c5 : (!((rd_T33 p (n : Int)).f0 == e0) || !((rd_T33 p (n : Int)).f1 == e1)) = false := by rw [d5]; simp
 simp only [vergerlaw5_EntryTakes.j0, Bool.false_eq_true, if_false, d1, d2, Option.bind_some, d3, hw, if_pos c1, if_neg c2, if_pos c3, if_pos c4, c5, d4, Bool.not_true, hj]
theorem takes_all (k : Nat) (hk : 500 ≤ k) (l : List E) (e0 e1 : Int) : vergerlaw5_EntryTakes.f k l e0 e1 = some true := by
 have aw : vergerlaw5_EntryTakes.j0 k l true e0 e1 = some true := by
  obtain ⟨k, rfl, _⟩ := succ_of (show 499 < k by omega)
  simp only [vergerlaw5_EntryTakes.j0, if_true]
  rw [awake5 k (by omega)]
  rfl
 unfold vergerlaw5_EntryTakes.f
 by_cases h80 : (l.length : Int) > 100
 · rw [if_pos h80, aw]
 · rw [if_neg h80, has_told k l e1 (by omega) (by omega)]
   simp only [Option.bind_some]
   by_cases hn : fstId l e1 < l.length
   · rw [decide_eq_true hn]
     exact aw
   · rw [decide_eq_false hn]
     exact EntryTakes_core k (by omega) l e0 e1 (by omega) hn
theorem EntryTakes_pure (l : List E) (e0 e1 : Int) {P Q R S : Prop} (_ : P) (_ : Q) (_ : R) (_ : S) : ∃ k, vergerlaw5_EntryTakes.f k l e0 e1 = some true := ⟨500, takes_all 500 (Nat.le_refl _) l e0 e1⟩
end Go.Proofs.Ytfhapffjnafkbaa.V
end
section
set_option linter.unusedVariables false
set_option linter.unusedSimpArgs false
namespace Go.Proofs.Ytfhapffjnafkbaa.VOpen
open Go.RowKit Go.Proofs.YtfhapffjnafkbaaW.PrintWords Go.Deep Go.ChangeShapes Go.WideShapes
structure Fits {α : Type} (P : Program) (t : TypeId) (d : Kd α) (good : α → Prop) : Prop where
  sz : P.cellsOf t = d.sz
  opens : ∀ {H : Type} {enc : TypeId × Value → H} {w : World} {base : Nat} {spare : Nat → Bool} {held : Bool} {fuel : Nat} {cs : List Value} {x : DataW H × List MemPlace},
    DataW.trod enc P w base spare held fuel t cs = some x → ∃ a, d.K w a cs ∧ good a
theorem fits_int {P : Program} {t : TypeId} {k : IntKind} (ht : P.underlying t = some (.int k)) (hc : P.cellsOf t = 1) : Fits P t (Kd.int k) (fun n => (Lit.int k n).wf = true) where
 sz := hc
 opens := fun h => by
  obtain ⟨n, rfl, _, hw⟩ := DataW.trod_int ht h
  exact ⟨n, rfl, hw⟩
theorem fits_iso {α β : Type} {P : Program} {t : TypeId} {d : Kd α} {good : α → Prop} (f : β → α) (g : α → β) (hfg : ∀ a, f (g a) = a) (h : Fits P t d good) : Fits P t (Kd.iso d f) (fun b => good (f b)) where
 sz := h.sz
 opens := fun hx => by
  obtain ⟨a, hk, hg⟩ := h.opens hx
  exact ⟨g a, by show d.K _ (f (g a)) _; rw [hfg]; exact hk, by rw [hfg]; exact hg⟩
structure FitsRow {α : Type} (P : Program) (fs : List Field) (o : Nat) (d : Kd α) (good : α → Prop) : Prop where
  opens : ∀ {H : Type} {enc : TypeId × Value → H} {w : World} {base : Nat} {spare : Nat → Bool} {held : Bool} {n : Nat} {cs : List Value} {xs : List (DataW H × List MemPlace)},
    cs.length = d.sz → xs.length = fs.length →
    (∀ (i : Nat) (f : Field), fs[i]? = some f → DataW.trod enc P w base spare held n f.type ((cs.drop (f.offset - o)).take (P.cellsOf f.type)) = xs[i]?) → (∀ (i : Nat) (f : Field), fs[i]? = some f → o ≤ f.offset) → ∃ a, d.K w a cs ∧ good a
theorem fitsRow_one {α : Type} {P : Program} {f : Field} {o : Nat} {d : Kd α} {good : α → Prop} (ho : f.offset = o) (h : Fits P f.type d good) : FitsRow P [f] o d good where
 opens := fun {H enc w base spare held n cs xs} hl hx hf _ => by
  match xs, hx with
  | [x], _ =>
   have := hf 0 f rfl
   rw [ho, Nat.sub_self, List.drop_zero, h.sz, List.take_of_length_le (Nat.le_of_eq hl)] at this
   exact h.opens this
theorem fitsRow_cons {α β : Type} {P : Program} {f : Field} {fs : List Field} {o : Nat} {a : Kd α} {b : Kd β} {ga : α → Prop} {gb : β → Prop} (ho : f.offset = o) (hos : ∀ (i : Nat) (f' : Field), fs[i]? = some f' → o + a.sz ≤ f'.offset)
 (h : Fits P f.type a ga) (hs : FitsRow P fs (o + a.sz) b gb) : FitsRow P (f :: fs) o (Kd.pair a b) (fun p => ga p.1 ∧ gb p.2) where
 opens := fun {H enc w base spare held n cs xs} hl hx hf _ => by
  match xs, hx with
  | x :: xs, hx =>
   have hl' : cs.length = a.sz + b.sz := hl
   have h0 := hf 0 f rfl
   rw [ho, Nat.sub_self, List.drop_zero, h.sz] at h0
   obtain ⟨u, hu, gu⟩ := h.opens h0
   obtain ⟨v, hv, gv⟩ := hs.opens (cs := cs.drop a.sz) (xs := xs) (by rw [List.length_drop]; omega) (by simpa using hx) (fun i f' hi => by
    have h1 := hf (i + 1) f' hi
    have h2 := hos i f' hi
    rw [List.drop_drop, show a.sz + (f'.offset - (o + a.sz)) = f'.offset - o from by omega]
    exact h1) hos
   exact ⟨(u, v), ⟨cs.take a.sz, cs.drop a.sz, (List.take_append_drop _ _).symm, hu, hv⟩, gu, gv⟩
theorem fits_struct {α : Type} {P : Program} {t : TypeId} {fs : Array Field} {d : Kd α} {good : α → Prop} (ht : P.underlying t = some (.struct fs)) (hc : P.cellsOf t = d.sz) (h : FitsRow P fs.toList 0 d good) : Fits P t d good where
 sz := hc
 opens := fun hx => by
  obtain ⟨xs, n, _, _, hl, hxl, hf⟩ := DataW.trod_struct ht hx
  exact h.opens (xs := xs) (n := n) (by rw [hl, hc]) (by rw [hxl]; simp) (fun i f hi => by
   have := hf i f (by simpa using hi)
   rw [Nat.sub_zero]
   exact this) (fun _ _ _ => Nat.zero_le _)
theorem filter_all {α : Type} (f : Nat → Option α) : ∀ (len : Nat), (∀ i, i < len → ∃ u, f i = some u) → ((List.range len).filterMap f).length = len ∧ ∀ i, i < len → ((List.range len).filterMap f)[i]? = f i := by
 intro len
 induction len with
 | zero => simp
 | succ k ih =>
  intro hf
  obtain ⟨h1, h2⟩ := ih (fun i hi => hf i (by omega))
  obtain ⟨u, hu⟩ := hf k (by omega)
  rw [List.range_succ, List.filterMap_append]
  simp only [List.filterMap_cons, hu, List.filterMap_nil]
  refine ⟨by simp [h1], fun i hi => ?_⟩
  by_cases hik : i < k
  · rw [List.getElem?_append_left (by omega)]
    exact h2 i hik
  · have : i = k := by omega
    subst this
    rw [List.getElem?_append_right (by omega), h1, hu]
    simp
theorem fits_slice {α : Type} {P : Program} {t e : TypeId} {d : Kd α} {good : α → Prop} (ht : P.underlying t = some (.slice e)) (hc : P.cellsOf t = 1) (h : Fits P e d good) : Fits P t (Kd.slice e d) (fun l => ∀ x ∈ l, good x) where
 sz := hc
 opens := fun {H enc w base spare held fuel cs x} hx => by
  rcases open_slice ht hx with ⟨rfl, _⟩ | ⟨a, len, cap, m, n, D, Pl, rfl, _, hl, hm, hmm, _, hcell⟩
  · exact ⟨[], ⟨none, 0, rfl, Nat.le_refl _, rfl, by simp, fun h0 => absurd h0 (by simp)⟩, by simp⟩
  · have hlm : len ≤ m := by rw [hmm]; split <;> omega
    have each : ∀ i, i < len → ∃ u : α, (∃ c, c.length = d.sz ∧ d.K w u c ∧ ∀ j v, c[j]? = some v → w.cell? (a.add (i * d.sz + j)) = some v) ∧ good u := by
     intro i hi
     obtain ⟨c, h1, h2⟩ := hcell i (by omega)
     rw [h.sz] at h1
     obtain ⟨_, h3, h4⟩ := World.cells?_some h1
     obtain ⟨u, hu, gu⟩ := h.opens h2
     refine ⟨u, ⟨c, h3, hu, fun j v hj => ?_⟩, gu⟩
     have hjl : j < d.sz := by have := (List.getElem?_eq_some_iff.1 hj).1; omega
     have := h4 j hjl
     rw [Addr.add_add] at this
     rw [this, hj]
    have hex : ∃ f : Nat → Option α, ∀ i, i < len → ∃ u, f i = some u ∧ (∃ c, c.length = d.sz ∧ d.K w u c ∧ ∀ j v, c[j]? = some v → w.cell? (a.add (i * d.sz + j)) = some v) ∧ good u := by
     classical
     refine ⟨fun i => if hi : i < len then some (Classical.choose (each i hi)) else none, fun i hi => ⟨Classical.choose (each i hi), by simp [hi], Classical.choose_spec (each i hi)⟩⟩
    obtain ⟨f, hf⟩ := hex
    have hlen := filter_all f len (fun i hi => (hf i hi).imp fun _ h => h.1)
    refine ⟨(List.range len).filterMap f, ⟨some a, cap, by rw [hlen.1], by rw [hlen.1]; exact hl, rfl, by rw [hlen.1]; unfold maxLen at hm; omega, fun _ => ⟨a, rfl, fun j p hj => ?_⟩⟩, fun x hx => ?_⟩
    · have hjl : j < len := by have := (List.getElem?_eq_some_iff.1 hj).1; rw [hlen.1] at this; exact this
      obtain ⟨u, hu, hc, _⟩ := hf j hjl
      rw [hlen.2 j hjl, hu] at hj
      injection hj with hj
      subst hj
      exact hc
    · obtain ⟨j, hj⟩ := List.mem_iff_getElem?.1 hx
      have hjl : j < len := by have := (List.getElem?_eq_some_iff.1 hj).1; rw [hlen.1] at this; exact this
      obtain ⟨u, hu, _, gu⟩ := hf j hjl
      rw [hlen.2 j hjl, hu] at hj
      injection hj with hj
      subst hj
      exact gu
theorem slice_arg {α : Type} {P : Program} {t e : TypeId} {d : Kd α} {good : List α → Prop} (h : Fits P t (Kd.slice e d) good) {H : Type} {enc : TypeId × Value → H} {w : World} {base : Nat} {spare : Nat → Bool} {held : Bool} {fuel : Nat} {v : Value}
 {x : DataW H × List MemPlace} {A : Option Addr} {len cap : Nat} (hv : v = .slice A len cap) (hx : DataW.trod enc P w base spare held fuel t v.cells.toList = some x) : ∃ l : List α, len = l.length ∧ l.length ≤ cap ∧ d.C w A l.length l ∧ good l := by
 subst hv
 obtain ⟨l, ⟨A', c', hcs, hl, hC⟩, hg⟩ := h.opens hx
 simp only [Value.cells, List.cons.injEq, and_true, Value.slice.injEq] at hcs
 obtain ⟨rfl, rfl, rfl⟩ := hcs
 exact ⟨l, rfl, hl, hC, hg⟩
theorem slice_bound {P : Program} {t e : TypeId} (ht : P.underlying t = some (.slice e)) {H : Type} {enc : TypeId × Value → H} {w : World} {base : Nat} {spare : Nat → Bool} {held : Bool} {fuel : Nat}
 {x : DataW H × List MemPlace} {A : Option Addr} {len cap : Nat} (hx : DataW.trod enc P w base spare held fuel t (Value.slice A len cap).cells.toList = some x)
 {ts : List TypeId} {ds : List (DataW H)} (hs : (DataW.weightsEach P ts ds).all (· ≤ reachBytes) = true) {j : Nat} (h1 : ts[j]? = some t) (h2 : ds[j]? = some x.1) {b : Nat} (hb : P.bytesOf e = b) : len * b ≤ 140737488351232 := by
 rcases DataW.trod_slice ht hx with ⟨hc, rfl⟩ | ⟨a, len', cap', elems, rest, n, _, hc, rfl, _, _, _, hl, _⟩
 · simp only [Value.cells, List.cons.injEq, and_true, Value.slice.injEq] at hc
   obtain ⟨rfl, rfl, rfl⟩ := hc
   omega
 · simp only [Value.cells, List.cons.injEq, and_true, Value.slice.injEq] at hc
   obtain ⟨rfl, rfl, rfl⟩ := hc
   have := sized_slice hs h1 h2 ht
   rw [hb, List.length_map, hl] at this
   refine Nat.le_trans (Nat.mul_le_mul_right b (Nat.le_add_right len _)) this
end Go.Proofs.Ytfhapffjnafkbaa.VOpen
end
