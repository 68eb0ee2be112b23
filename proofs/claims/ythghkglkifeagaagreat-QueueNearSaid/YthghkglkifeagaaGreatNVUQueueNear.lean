-- a text of this work, without what this claim doesn't use (wip/shake.py)
import Derived.Test.YthghkglkifeagaaGreatNVQP
import Derived.Test.YthghkglkifeagaaGreatNVP5T
import Derived.Test.YthghkglkifeagaaGreatNVPvergerref51
import Derived.Test.YthghkglkifeagaaGreatNVL6
import Derived.Test.YthghkglkifeagaaGreatNVLsm5
import Derived.Test.YthghkglkifeagaaGreatNVQ14
import Derived.Test.YthghkglkifeagaaGreatNWWords
import Derived.SizedLaws
import Derived.ChangeSlices
import Derived.WalkKit
import Derived.ProofKit
import Derived.OpenShut
import Derived.ShutString
import Derived.ChangeOld
import Derived.Below
import Derived.Deep.Slices
section
set_option linter.unusedVariables false
set_option linter.unusedSimpArgs false
namespace Go.Proofs.YthghkglkifeagaaGreat.V
open Go.RowKit Go.Proofs.YthghkglkifeagaaGreatW.PrintWords Go.Proofs.YthghkglkifeagaaGreatW.PrintLast Go.Proofs.YthghkglkifeagaaGreatW.PrintMore
structure NearP (a : Qa) (T k i : Nat) : Prop where
  k_ : a.k = k
  S : a.S.length = T
  loc : a.loc.length = T
  un : Unlike (entsQ a)
  ids : ∀ x ∈ entsQ a, x.f1 ≤ (i : Int)
  few : ∀ t, (a.loc.getD t []).length ≤ k
theorem getD_set (l : List (List E)) (t j : Nat) (x : List E) : (l.set t x).getD j [] = if t = j ∧ t < l.length then x else l.getD j [] := by
 rw [List.getD_eq_getElem?_getD, List.getElem?_set]
 by_cases h : t = j
 · subst h
   rw [if_pos rfl]
   by_cases h2 : t < l.length
   · rw [if_pos h2, if_pos ⟨rfl, h2⟩]; rfl
   · rw [if_neg h2, if_neg (fun hh => h2 hh.2), List.getD_eq_getElem?_getD, List.getElem?_eq_none (by omega)]
 · rw [if_neg h, if_neg (fun hh => h hh.1), List.getD_eq_getElem?_getD]
theorem few_settle {a : Qa} {k : Nat} (hk : a.k = k) (h : ∀ t, (a.loc.getD t []).length ≤ k) (t j : Nat) : ((settleQ a t).loc.getD j []).length ≤ k := by
 unfold settleQ
 split
 · unfold settleA
   split
   · rename_i hc
     show ((a.loc.set t _).getD j []).length ≤ k
     rw [getD_set]
     split
     · rw [sortE_length, List.length_cons]; omega
     · exact h j
   · show ((a.loc.set t []).getD j []).length ≤ k
     rw [getD_set]
     split
     · simp
     · exact h j
 · exact h j
theorem ents_new (n k : Nat) : entsQ (newA n k) = [] := by
 have h0 : slotsE (newA n k) = [] := by
  unfold slotsE newA
  show (List.replicate n (none : Option E)).filterMap id = []
  induction n with
  | zero => rfl
  | succ z ih => rw [List.replicate_succ, List.filterMap_cons_none rfl, ih]
 have h1 : (newA n k).loc.flatten = [] := by
  show (List.replicate n ([] : List E)).flatten = []
  simp
 unfold entsQ
 rw [h0, h1]; rfl
namespace NearP
variable {a : Qa} {T k i : Nat}
theorem new (n k : Nat) : NearP (newA n k) n k 0 := by
 have he := ents_new n k
 refine ⟨rfl, List.length_replicate, List.length_replicate, by rw [he]; exact List.nodup_nil, by rw [he]; simp, fun t => ?_⟩
 show ((List.replicate n ([] : List E)).getD t []).length ≤ k
 rw [List.getD_eq_getElem?_getD, List.getElem?_replicate]
 split <;> simp
theorem hl (h : NearP a T k i) : a.S.length = a.loc.length := by rw [h.S, h.loc]
theorem mono (h : NearP a T k i) {j : Nat} (hj : i ≤ j) : NearP a T k j := ⟨h.k_, h.S, h.loc, h.un, fun x hx => by have := h.ids x hx; omega, h.few⟩
theorem settle (h : NearP a T k i) (t : Nat) : NearP (settleQ a t) T k i := by
 obtain ⟨s1, s2, s3⟩ := settleQ_S a t
 have hp := ents_settle h.hl t
 exact ⟨by rw [s3]; exact h.k_, by rw [s1]; exact h.S, by rw [s2]; exact h.loc, h.un.perm hp.symm, fun x hx => h.ids x (hp.mem_iff.1 hx), few_settle h.k_ h.few t⟩
theorem put (h : NearP a T k i) {t : Nat} (ht : t < T) {e : E} (he : e.f1 = (i : Int) + 1) : NearP (putQ a t e) T k (i + 1) := by
 obtain ⟨s1, s2, s3⟩ := put_len a t e
 have hp := ents_put h.hl t (by rw [h.loc]; exact ht) e
 have hs := h.settle t
 refine ⟨by rw [s3]; exact h.k_, by rw [s1]; exact h.S, by rw [s2]; exact h.loc, Unlike.perm ?_ hp.symm, fun x hx => ?_, hs.few⟩
 · unfold Unlike
   rw [List.map_cons, List.nodup_cons]
   refine ⟨fun hm => ?_, h.un⟩
   obtain ⟨y, hy, e1⟩ := List.mem_map.1 hm
   have := h.ids y hy
   omega
 · rcases List.mem_cons.1 (hp.mem_iff.1 hx) with rfl | h2
   · omega
   · have := h.ids x h2
     omega
theorem take (h : NearP a T k i) (id : Int) : NearP (takeQ a id).2 T k i := by
 obtain ⟨_, hp, s1, s2, s3⟩ := ents_take h.hl h.un id
 refine ⟨by rw [s3]; exact h.k_, by rw [s1]; exact h.S, by rw [s2]; exact h.loc, (others_unlike h.un).perm hp.symm, fun x hx => h.ids x (List.mem_filter.1 (hp.mem_iff.1 hx)).1, fun t => ?_⟩
 unfold takeQ
 split
 · rename_i p _
   show ((outQ a id p).loc.getD t []).length ≤ k
   unfold outQ
   split
   · exact h.few t
   · split
     · show ((a.loc.set p.2 (others id (a.loc.getD p.2 []))).getD t []).length ≤ k
       rw [getD_set]
       split
       · exact Nat.le_trans (others_le _ _) (h.few _)
       · exact h.few t
     · exact h.few t
 · exact h.few t
end NearP
theorem rel_cases {a : Qa} {t d : Nat} {x : E} (h : relaxedQ a t d = some x) :
 ((a.loc.getD t []).head? = some x ∧ ∀ y, candQ a d = some y → ltE y x = false) ∨ (candQ a d = some x ∧ ∀ y, (a.loc.getD t []).head? = some y → ltE x y = true) ∨ ((a.loc.getD t []).head? = none ∧ candQ a d = none ∧ roundQ a t = some x) := by
 unfold relaxedQ at h
 cases hp : (a.loc.getD t []).head? with
 | none =>
  rw [hp] at h
  cases hc : candQ a d with
  | none =>
   rw [hc] at h
   exact .inr (.inr ⟨rfl, rfl, h⟩)
  | some y =>
   rw [hc] at h
   have : y = x := Option.some.inj h
   subst this
   exact .inr (.inl ⟨rfl, fun y hy => by simp at hy⟩)
 | some z =>
  rw [hp] at h
  cases hc : candQ a d with
  | none =>
   rw [hc] at h
   have : z = x := Option.some.inj h
   subst this
   exact .inl ⟨rfl, fun y hy => by simp at hy⟩
  | some y =>
   rw [hc] at h
   have h : (if ltE y z = true then some y else some z) = some x := h
   by_cases hl : ltE y z = true
   · rw [if_pos hl] at h
     have : y = x := Option.some.inj h
     subst this
     exact .inr (.inl ⟨rfl, fun y' hy => by rw [← Option.some.inj hy]; exact hl⟩)
   · rw [if_neg hl] at h
     have : z = x := Option.some.inj h
     subst this
     exact .inl ⟨rfl, fun y' hy => by rw [← Option.some.inj hy]; simpa using hl⟩
theorem rel_null {a : Qa} {t d : Nat} (h : relaxedQ a t d = none) : (a.loc.getD t []).head? = none ∧ candQ a d = none ∧ roundQ a t = none := by
 unfold relaxedQ at h
 cases hp : (a.loc.getD t []).head? with
 | none =>
  rw [hp] at h
  cases hc : candQ a d with
  | none => rw [hc] at h; exact ⟨rfl, rfl, h⟩
  | some y => rw [hc] at h; simp [relaxP] at h
 | some z =>
  rw [hp] at h
  cases hc : candQ a d with
  | none => rw [hc] at h; simp [relaxP] at h
  | some y =>
   rw [hc] at h
   have h : (if ltE y z = true then some y else some z) = none := h
   split at h <;> simp at h
theorem cand_none {a : Qa} {d : Nat} (h : candQ a d = none) : a.sh = [] := by
 unfold candQ candL at h
 split at h
 · rename_i h1
   cases hs : a.sh with
   | nil => rfl
   | cons y r => rw [hs] at h1; simp at h1
 · simp at h
theorem cand_some {a : Qa} {d : Nat} {x : E} (h : candQ a d = some x) : ∃ i, i ≤ a.k ∧ a.sh[i]? = some x := by
 unfold candQ candL at h
 split at h
 · simp at h
 · rename_i h1
   have hpos : 0 < (a.sh.take (a.k + 1)).length := by
    cases hs : a.sh.take (a.k + 1) with
    | nil => exact absurd hs h1
    | cons _ _ => simp
   have hlt := Nat.mod_lt d hpos
   rw [List.length_take] at hlt
   obtain ⟨i, hi⟩ : ∃ i, d % (a.sh.take (a.k + 1)).length = i := ⟨_, rfl⟩
   rw [List.length_take] at hi
   have he := Option.some.inj h
   rw [List.length_take, hi, List.getD_eq_getElem?_getD, List.getElem?_take, if_pos (by omega)] at he
   rw [hi] at hlt
   refine ⟨i, by omega, ?_⟩
   rw [List.getElem?_eq_getElem (by omega)] at he ⊢
   rw [← he]; rfl
theorem round_all : ∀ n, n ≤ 8 → ∀ t, t < n → ∀ j, j < n → ∃ i, i < n ∧ (t + 1 + i) % n = j := by
 have h : ∀ n, n < 9 → ∀ t, t < n → ∀ j, j < n → ∃ i, i < n ∧ (t + 1 + i) % n = j := by decide
 intro n hn
 exact h n (by omega)
theorem round_cases {a : Qa} {t : Nat} : (∃ i x, i < a.loc.length ∧ roundQ a t = some x ∧ nextHead a t i = some x) ∨ ((∀ i, i < a.loc.length → nextHead a t i = none) ∧ roundQ a t = (sortE (slotsE a)).head?) := by
 unfold roundQ
 cases hf : (List.range a.loc.length).findSome? (nextHead a t) with
 | some e =>
  obtain ⟨i, hi, he⟩ := List.exists_of_findSome?_eq_some hf
  exact .inl ⟨i, e, List.mem_range.1 hi, rfl, he⟩
 | none =>
  rw [List.findSome?_eq_none_iff] at hf
  exact .inr ⟨fun i hi => hf i (List.mem_range.2 hi), rfl⟩
theorem head_mem {l : List E} {x : E} (h : l.head? = some x) : x ∈ l := by
 cases l with
 | nil => simp at h
 | cons a r => rw [Option.some.inj h]; exact List.mem_cons_self
theorem loc_mem {a : Qa} {t : Nat} {x : E} (h : x ∈ a.loc.getD t []) : x ∈ entsQ a := by
 unfold entsQ
 refine List.mem_append_right _ ?_
 by_cases ht : t < a.loc.length
 · rw [List.getD_eq_getElem?_getD, List.getElem?_eq_getElem ht] at h
   exact List.mem_flatten.2 ⟨_, List.getElem_mem ht, h⟩
 · rw [List.getD_eq_getElem?_getD, List.getElem?_eq_none (by omega)] at h
   simp at h
theorem rel_mem {a : Qa} {t d : Nat} {x : E} (h : relaxedQ a t d = some x) : x ∈ entsQ a := by
 rcases rel_cases h with ⟨h1, _⟩ | ⟨h1, _⟩ | ⟨_, _, h1⟩
 · exact loc_mem (head_mem h1)
 · obtain ⟨i, _, hi⟩ := cand_some h1
   unfold entsQ
   exact List.mem_append_left _ (List.mem_append_right _ (List.mem_of_getElem? hi))
 · rcases round_cases (a := a) (t := t) with ⟨i, y, _, h2, h3⟩ | ⟨_, h2⟩
   · rw [h1] at h2
     rw [← Option.some.inj h2] at h3
     exact loc_mem (head_mem h3)
   · rw [h1] at h2
     have := sortE_mem.1 (head_mem h2.symm)
     unfold entsQ
     exact List.mem_append_left _ (List.mem_append_left _ this)
theorem rel_empty {a : Qa} {t d : Nat} (hT : a.loc.length ≤ 8) (ht : t < a.loc.length) (h : relaxedQ a t d = none) : entsQ a = [] := by
 obtain ⟨h1, h2, h3⟩ := rel_null h
 have hsh := cand_none h2
 rcases round_cases (a := a) (t := t) with ⟨i, y, _, h4, _⟩ | ⟨h4, h5⟩
 · rw [h3] at h4; simp at h4
 · have hs : slotsE a = [] := by
    rw [h3] at h5
    have h6 : sortE (slotsE a) = [] := by
     cases hh : sortE (slotsE a) with
     | nil => rfl
     | cons y r => rw [hh] at h5; simp at h5
    exact List.length_eq_zero_iff.1 (by rw [← sortE_length, h6]; rfl)
   have hl : a.loc.flatten = [] := by
    rw [List.flatten_eq_nil_iff]
    intro l hl
    obtain ⟨j, hj, rfl⟩ := List.getElem_of_mem hl
    obtain ⟨i, hi, he⟩ := round_all _ hT t ht j hj
    have h7 := h4 i hi
    unfold nextHead at h7
    rw [he, List.getD_eq_getElem?_getD, List.getElem?_eq_getElem hj] at h7
    simpa using h7
   unfold entsQ
   rw [hs, hsh, hl]; rfl
theorem place_app (l m : List E) (x : E) : placeE (l ++ m) x = placeE l x + placeE m x := by unfold placeE; exact List.countP_append
theorem place_min {l : List E} {x : E} (h : ∀ y ∈ l, ltE y x = false) : placeE l x = 0 := by
 unfold placeE
 rw [List.countP_eq_zero]
 intro y hy
 rw [h y hy]; simp
theorem place_mono {l : List E} {x y : E} (h : ltE y x = false) : placeE l x ≤ placeE l y := by
 unfold placeE
 refine List.countP_mono_left fun z _ hz => ?_
 rcases ltE_tri z y with h1 | h1 | h1
 · exact h1
 · subst h1; rw [h] at hz; simp at hz
 · exfalso
   have := ltE_trans h1 hz
   rw [h] at this
   simp at this
theorem place_at {l : List E} (hs : SortedE l) {i : Nat} {x : E} (h : l[i]? = some x) : placeE l x ≤ i := by
 have h1 := placeE_sorted hs x i x h
 rw [ltE_irrefl] at h1
 have : ¬ i < placeE l x := fun hh => by have := h1.2 hh; simp at this
 omega
theorem sum_out {k : Nat} : ∀ (l : List (List E)) (t : Nat), t < l.length → (∀ j, (l.getD j []).length ≤ k) → sumL (l.set t []) + k ≤ l.length * k := by
 have h0 : ∀ l : List (List E), (∀ j, (l.getD j []).length ≤ k) → sumL l ≤ l.length * k := by
  intro l
  induction l with
  | nil => intro _; simp [sumL]
  | cons a r ih =>
   intro h
   have h1 := ih (fun j => by have := h (j + 1); simpa using this)
   have h2 := h 0
   simp only [List.getD_cons_zero] at h2
   simp only [sumL, List.map_cons, List.sum_cons, List.length_cons, Nat.succ_mul] at h1 ⊢
   omega
 intro l
 induction l with
 | nil => intro t h; simp at h
 | cons a r ih =>
  intro t ht h
  have hr : ∀ j, (r.getD j []).length ≤ k := fun j => by have := h (j + 1); simpa using this
  cases t with
  | zero =>
   have := h0 r hr
   simp only [sumL, List.set_cons_zero, List.map_cons, List.sum_cons, List.length_cons, List.length_nil, Nat.succ_mul] at this ⊢
   omega
  | succ t =>
   have h1 := ih t (by simpa using ht) hr
   have h2 := h 0
   simp only [List.getD_cons_zero] at h2
   simp only [sumL, List.set_cons_succ, List.map_cons, List.sum_cons, List.length_cons, Nat.succ_mul] at h1 ⊢
   omega
theorem rel_near {a : Qa} {T k i t d : Nat} {x : E} (h : NearP a T k i) (ht : t < T) (hsl : ∀ j, SortedE (a.loc.getD j [])) (hss : SortedE a.sh) (hx : relaxedQ a t d = some x) : placeE (allQ a) x ≤ T * k + T := by
 have hown : placeE (a.loc.getD t []) x = 0 := by
  rcases rel_cases hx with ⟨h1, _⟩ | ⟨h1, h2⟩ | ⟨h1, _, _⟩
  · cases hh : a.loc.getD t [] with
    | nil => rfl
    | cons b r =>
     rw [hh] at h1
     have : b = x := Option.some.inj h1
     subst this
     have hs := hsl t
     rw [hh] at hs
     refine place_min fun y hy => ?_
     rcases List.mem_cons.1 hy with rfl | hy
     · exact ltE_irrefl _
     · have := (sorted_cons.1 hs).1 y hy
       simpa [leE] using this
  · cases hh : a.loc.getD t [] with
    | nil => rfl
    | cons b r =>
     rw [hh] at h2
     have hb := h2 b rfl
     have hs := hsl t
     rw [hh] at hs
     refine place_min fun y hy => ?_
     rcases List.mem_cons.1 hy with rfl | hy
     · exact ltE_asymm hb
     · exact ltE_asymm (ltE_of_lt_le hb ((sorted_cons.1 hs).1 y hy))
  · cases hh : a.loc.getD t [] with
    | nil => rfl
    | cons b r => rw [hh] at h1; simp at h1
 have hsh : placeE a.sh x ≤ k := by
  rcases rel_cases hx with ⟨h1, h2⟩ | ⟨h1, _⟩ | ⟨_, h1, _⟩
  · cases hc : candQ a d with
    | none => rw [cand_none hc]; simp [placeE]
    | some y =>
     obtain ⟨j, hj, he⟩ := cand_some hc
     have := place_mono (l := a.sh) (h2 y hc)
     have := place_at hss he
     have := h.k_
     omega
  · obtain ⟨j, hj, he⟩ := cand_some h1
    have := place_at hss he
    have := h.k_
    omega
  · rw [cand_none h1]; simp [placeE]
 have htl : t < a.loc.length := by rw [h.loc]; exact ht
 have hfl : placeE a.loc.flatten x + k ≤ T * k := by
  have h1 : placeE a.loc.flatten x = placeE (a.loc.getD t [] ++ (a.loc.set t []).flatten) x := placeE_perm (flat_at a.loc t htl) x
  rw [place_app, hown] at h1
  have h2 : placeE (a.loc.set t []).flatten x ≤ sumL (a.loc.set t []) := by
   rw [← locs_len]; exact placeE_le _ _
  have h3 := sum_out (k := k) a.loc t htl h.few
  rw [h.loc] at h3
  omega
 have hsl2 : placeE (slotsE a) x ≤ T := by
  have h1 := placeE_le (slotsE a) x
  have h2 := slots_le a
  have := h.S
  omega
 have hall : placeE (allQ a) x = placeE (entsQ a) x := placeE_perm (sortE_perm _) x
 rw [hall]
 unfold entsQ
 rw [place_app, place_app]
 omega
theorem QOk.sortedL {w0 w : World} {pq : Nat} {a : Qa} {n : Nat} {B : List (Nat × Obj)} (h : QOk w0 w pq a n B) (t : Nat) : SortedE (a.loc.getD t []) := by
 obtain ⟨_, _, _, h2, _⟩ := h.ex
 rw [← h2.loc, List.getD_eq_getElem?_getD, List.getElem?_map]
 cases hh : (_ : List Own1)[t]? with
 | none => exact sorted_nil
 | some m => exact sortE_sorted _
end Go.Proofs.YthghkglkifeagaaGreat.V
end
section
set_option linter.unusedVariables false
set_option linter.unusedSimpArgs false
namespace Go.Proofs.YthghkglkifeagaaGreat.V
open Go.RowKit Go.Proofs.YthghkglkifeagaaGreatW.PrintWords Go.Proofs.YthghkglkifeagaaGreatW.PrintLast Go.Proofs.YthghkglkifeagaaGreatW.PrintMore
theorem and_maskL (x : Int) (m : Nat) (hm : m < 4611686018427387904) : 0 ≤ Go.bits .and .i64 x (m : Int) ∧ Go.bits .and .i64 x (m : Int) ≤ (m : Int) := by
 have h2 : (BitVec.ofInt 64 (m : Int)).toNat = m := by
  rw [BitVec.ofInt_natCast, BitVec.toNat_ofNat]; exact Nat.mod_eq_of_lt (by omega)
 have h3 : ((BitVec.ofInt 64 x) &&& (BitVec.ofInt 64 (m : Int))).toNat ≤ m := by
  rw [BitVec.toNat_and, h2]
  exact Nat.and_le_right
 show 0 ≤ IntKind.i64.wrap ((BitVec.ofInt 64 x &&& BitVec.ofInt 64 (m : Int)).toNat : Int) ∧ IntKind.i64.wrap ((BitVec.ofInt 64 x &&& BitVec.ofInt 64 (m : Int)).toNat : Int) ≤ _
 rw [i64_w]
 unfold wrap64
 omega
end Go.Proofs.YthghkglkifeagaaGreat.V
end
section
set_option linter.unusedVariables false
set_option linter.unusedSimpArgs false
namespace Go.Proofs.YthghkglkifeagaaGreat.V
open Go.RowKit Go.Proofs.YthghkglkifeagaaGreatW.PrintWords Go.Proofs.YthghkglkifeagaaGreatW.PrintLast Go.Proofs.YthghkglkifeagaaGreatW.PrintMore
theorem refplace_loop (l : List E) (e0 e1 : Int) (hl : l.length < 1000000000) : ∀ (d k i : Nat), l.length - i = d → i ≤ l.length → d + 4 ≤ k →
 vergerref5_Place.l0 k l ((placeE (l.take i) ⟨e0, e1⟩ : Nat) : Int) (i : Int) e0 e1 = some ((placeE l ⟨e0, e1⟩ : Nat) : Int) := by
 intro d
 induction d with
 | zero =>
  intro k i hd hi hk
  obtain ⟨k, rfl, _⟩ := succ_of (show 0 < k by omega)
  have : i = l.length := by omega
  subst this
  simp only [vergerref5_Place.l0]
  rw [if_neg (by omega), List.take_length]
 | succ d ih =>
  intro k i hd hi hk
  obtain ⟨k, rfl, _⟩ := succ_of (show 0 < k by omega)
  have hlt : i < l.length := by omega
  have hz : (i : Int) < (l.length : Int) := by omega
  have h0 : (0 : Int) ≤ (i : Int) := by omega
  have hp : placeE (l.take i) ⟨e0, e1⟩ ≤ 4611686018427387904 := Nat.le_trans (placeE_le _ _) (by rw [List.length_take]; omega)
  have hn : placeE (l.take (i + 1)) ⟨e0, e1⟩ = placeE (l.take i) ⟨e0, e1⟩ + (if ltE l[i] ⟨e0, e1⟩ = true then 1 else 0) := by
   unfold placeE
   rw [List.take_succ_eq_append_getElem hlt, List.countP_append]
   simp [List.countP_cons]
  have := ih k (i + 1) (by omega) (by omega) (by omega)
  rw [hn] at this
  simp only [vergerref5_Place.l0, if_pos hz, if_pos h0, rd_get hlt, refless_told, Option.bind_some, wrap_nat (show i ≤ 4611686018427387904 by omega), wrap_nat hp]
  by_cases hc : ltE l[i] ⟨e0, e1⟩ = true
  · rw [if_pos hc] at this ⊢
    exact this
  · rw [if_neg hc] at this ⊢
    exact this
theorem refplace_told (k : Nat) (l : List E) (e0 e1 : Int) (hl : l.length < 1000000000) (hk : l.length + 4 ≤ k) : vergerref5_Place.f k l e0 e1 = some ((placeE l ⟨e0, e1⟩ : Nat) : Int) := by
 have := refplace_loop l e0 e1 hl l.length k 0 (by omega) (by omega) (by omega)
 unfold vergerref5_Place.f
 simpa [placeE] using this
end Go.Proofs.YthghkglkifeagaaGreat.V
end
section
set_option linter.unusedVariables false
set_option linter.unusedSimpArgs false
namespace Go.Proofs.YthghkglkifeagaaGreat.V
open Go.RowKit Go.Proofs.YthghkglkifeagaaGreatW.PrintWords Go.Proofs.YthghkglkifeagaaGreatW.PrintLast Go.Proofs.YthghkglkifeagaaGreatW.PrintMore
def fstId (l : List E) (id : Int) : Nat := l.findIdx fun e => e.f1 == id
theorem fstId_le (l : List E) (id : Int) : fstId l id ≤ l.length := List.findIdx_le_length
theorem fstId_at {l : List E} {id : Int} {i : Nat} (hi : i < l.length) (hle : i ≤ fstId l id) (h : (l[i]).f1 = id) : fstId l id = i := by
 rcases Nat.lt_or_ge i (fstId l id) with hlt | hge
 · have := List.not_of_lt_findIdx hlt
   simp [h] at this
 · omega
theorem fstId_past {l : List E} {id : Int} {i : Nat} (hi : i < l.length) (hle : i ≤ fstId l id) (h : ¬ (l[i]).f1 = id) : i + 1 ≤ fstId l id := by
 rcases Nat.lt_or_ge i (fstId l id) with hlt | hge
 · exact hlt
 · have he : fstId l id = i := by omega
   have h2 := (List.findIdx_eq hi).1 (show l.findIdx (fun e => e.f1 == id) = i from he)
   exact absurd (by simpa using h2.1) h
theorem has_loop (l : List E) (id : Int) (hl : l.length < 1000000000) : ∀ (d k i : Nat), l.length - i = d → i ≤ fstId l id → d < k → vergerref5_Has.l0 k l id (i : Int) = some (decide (fstId l id < l.length)) := by
 have hfl := fstId_le l id
 intro d
 induction d with
 | zero =>
  intro k i hd hi hk
  obtain ⟨k, rfl, _⟩ := succ_of hk
  simp only [vergerref5_Has.l0]
  rw [if_neg (by omega), decide_eq_false (by omega)]
 | succ d ih =>
  intro k i hd hi hk
  obtain ⟨k, rfl, hk'⟩ := succ_of hk
  have hlt : i < l.length := by omega
  have hz : (i : Int) < (l.length : Int) := by omega
  have h0 : (0 : Int) ≤ (i : Int) := by omega
  simp only [vergerref5_Has.l0, if_pos hz, if_pos h0, rd_get hlt, wrap_nat (show i ≤ 4611686018427387904 by omega)]
  by_cases hc : (l[i]).f1 = id
  · rw [if_pos hc, fstId_at hlt hi hc, decide_eq_true hlt]
  · rw [if_neg hc]
    exact ih k (i + 1) (by omega) (fstId_past hlt hi hc) (by omega)
theorem has_told (k : Nat) (l : List E) (id : Int) (hl : l.length < 1000000000) (hk : l.length < k) : vergerref5_Has.f k l id = some (decide (fstId l id < l.length)) := by
 have := has_loop l id hl l.length k 0 (by omega) (by omega) hk
 unfold vergerref5_Has.f
 exact this
theorem fstId_iff (l : List E) (id : Int) : fstId l id < l.length ↔ ∃ e ∈ l, e.f1 = id := by
 unfold fstId
 rw [List.findIdx_lt_length]
 simp
end Go.Proofs.YthghkglkifeagaaGreat.V
end
section
set_option linter.unusedVariables false
set_option linter.unusedSimpArgs false
namespace Go.Proofs.YthghkglkifeagaaGreat.V
open Go.RowKit Go.Proofs.YthghkglkifeagaaGreatW.PrintWords Go.Proofs.YthghkglkifeagaaGreatW.PrintLast Go.Proofs.YthghkglkifeagaaGreatW.PrintMore
theorem q_newY (z k : Nat) (w : World) (h1 : z ≤ 7) (hk : k ≤ 16) :
 Calls Tryz.prog 7 #[.int .i64 ((z : Int) + 1), .int .i64 k] w fun e w' => ∃ pq, e = .returned (.tuple #[.pointer (some ⟨pq, 0, none⟩), .int .i64 0]) ∧ QOk w w' pq (newA (z + 1) k) 0 [] := by
 have := q_new (z + 1) k w (by omega) (by omega) hk
 rwa [show ((z + 1 : Nat) : Int) = (z : Int) + 1 from by push_cast; rfl] at this
structure NrSt (w wr : World) (pq T k i : Nat) : Prop where
  ex : ∃ a, QOk w wr pq a i [] ∧ NearP a T k i
theorem op10_at {w wr : World} {A : Option Addr} {l : List S30} (h : k30.C w A l.length l) (hb : Below w.heap.size w wr) {i : Nat} {o : S30} (ho : l[i]? = some o) :
 ∃ ad, A = some ad ∧ wr.cell? (ad.add (i * 5)) = some (.int .i64 o.f0) ∧ wr.cell? ⟨(ad.add (i * 5)).block, (ad.add (i * 5)).off + 1, none⟩ = some (.int .i64 o.f1) ∧ wr.cell? ⟨(ad.add (i * 5)).block, (ad.add (i * 5)).off + 2, none⟩ = some (.int .i64 o.f2) ∧ wr.cell? ⟨(ad.add (i * 5)).block, (ad.add (i * 5)).off + 3, none⟩ = some (.int .u64 o.f3) ∧ wr.cell? ⟨(ad.add (i * 5)).block, (ad.add (i * 5)).off + 4, none⟩ = some (.int .u64 o.f4) := by
 have hlt := (List.getElem?_eq_some_iff.1 ho).1
 obtain ⟨ad, e1, h0, h1, h2, h3, h4⟩ := at_T30 h (i : Int) (by omega) (by omega)
 have hr : rd_T30 l (i : Int) = o := by unfold rd_T30; rw [Int.toNat_natCast, List.getD_eq_getElem?_getD, ho]; rfl
 rw [Int.toNat_natCast, hr] at h0 h1 h2 h3 h4
 exact ⟨ad, e1, pw_cell_below hb h0, pw_cell_below hb h1, pw_cell_below hb h2, pw_cell_below hb h3, pw_cell_below hb h4⟩
theorem has_any (k : Nat) (l : List E) (id : Int) (hl : l.length < 1000000000) (hk : l.length < k) : vergerref5_Has.f k l id = some (l.any (isId id)) := by
 rw [has_told k l id hl hk]
 congr 1
 apply Bool.eq_iff_iff.2
 rw [decide_eq_true_eq, fstId_iff, List.any_eq_true]
 simp [isId]
set_option maxRecDepth 100000 in
set_option maxHeartbeats 4000000 in
theorem queueNear_walk (x y : Int) (A : Option Addr) (c : Nat) (l : List S30) (d : Nat) (w : World) (hr : Kd.C k30 w A l.length l) (hc : l.length ≤ c) (hg : ∀ o ∈ l, 0 ≤ o.f4 ∧ o.f4 < 18446744073709551616) (hd : d < 18446744073709551616) :
 Calls Tryz.prog 6 #[.int .i64 x, .int .i64 y, .slice A l.length c, .int .u64 (d : Int)] w fun e w' => e = .returned (.bool true) ∧ Below w.heap.size w w' := by
 have HR := Aside0.mk hr
 have HG := Aside0.mk hg
 have HD := Aside0.mk hd
 have hl63 : l.length ≤ 9223372036854775807 := hr.2.1
 have hx := and_maskL x 7 (by omega)
 rw [show ((7 : Nat) : Int) = 7 from rfl] at hx
 obtain ⟨z, hz⟩ : ∃ z : Nat, bits BinOp.and IntKind.i64 x 7 = (z : Int) := ⟨(bits BinOp.and IntKind.i64 x 7).toNat, by omega⟩
 have hz7 : z ≤ 7 := by omega
 have hy := and_maskL y 15 (by omega)
 rw [show ((15 : Nat) : Int) = 15 from rfl] at hy
 obtain ⟨k, hk⟩ : ∃ k : Nat, bits BinOp.and IntKind.i64 y 15 = (k : Int) := ⟨(bits BinOp.and IntKind.i64 y 15).toNat, by omega⟩
 have hk15 : k ≤ 15 := by omega
 clear hx hy hr hg hd
 go_enter Tryz.func6, Tryz.ntmps6
 go_wp2_with fail
 refine (q_newY z k w hz7 (by omega)).mono ?_
 rintro q w1 ⟨pq, rfl, h1⟩
 have HS0 := Aside0.mk (show NrSt w w1 pq (z + 1) k 0 from ⟨⟨_, h1, NearP.new (z + 1) k⟩⟩)
 clear h1 hk hz
 go_wp2_with fail
 go_loopw [11] (fun i wr => ∃ m : Nat, m ≤ l.length ∧ m ≤ 60 ∧ i = .int .i64 m ∧ Aside0 (NrSt w wr pq (z + 1) k m)) (fun i _ => 61 - (intOf i).toNat)
 case atStart => exact ⟨0, Nat.zero_le _, by omega, rfl, HS0⟩
 case round =>
  clear HS0
  obtain ⟨m, hml, hm60, rfl, HS⟩ := hrel
  obtain ⟨a, hq, hn⟩ := HS.out.ex
  have HQ := Aside0.mk hq
  have HN := Aside0.mk hn
  by_cases hlt : m < l.length ∧ m < 60
  · obtain ⟨hlt, hlt60⟩ := hlt
    have hlt2 : (m : Int) < (l.length : Int) := by omega
    have hlt3 : (m : Int) < 60 := by omega
    obtain ⟨o, ho⟩ : ∃ o, l[m]? = some o := ⟨_, List.getElem?_eq_getElem hlt⟩
    obtain ⟨ad, rfl, y0, y1, y2, y3, y4⟩ := op10_at HR.out hq.bel ho
    have hgo := HG.out o (List.mem_of_getElem? ho)
    clear ho hq hn
    obtain ⟨K, t0, id0, key, dr⟩ := o
    simp only at y0 y1 y2 y3 y4 hgo
    have ht := and_maskL t0 7 (by omega)
    rw [show ((7 : Nat) : Int) = 7 from rfl] at ht
    obtain ⟨c7, hc7⟩ : ∃ c7 : Nat, bits BinOp.and IntKind.i64 t0 7 = (c7 : Int) := ⟨(bits BinOp.and IntKind.i64 t0 7).toNat, by omega⟩
    have hc77 : c7 ≤ 7 := by omega
    obtain ⟨t, ht1⟩ : ∃ t, c7 % (z + 1) = t := ⟨_, rfl⟩
    have htz : t < z + 1 := by rw [← ht1]; exact Nat.mod_lt _ (by omega)
    have r1 : (c7 : Int).tmod ((z : Int) + 1) = (t : Int) := by rw [Int.tmod_eq_emod_of_nonneg (by omega), ← ht1]; rfl
    have r2 : (c7 : Int) % ((z : Int) + 1) = (t : Int) := by rw [← ht1]; rfl
    have r4 : ¬ ((z : Int) + 1 = 0) := by omega
    have r6 : ((z : Int) + 1 == 0) = false := by rw [beq_eq_false_iff_ne]; omega
    have HTL := Aside0.mk (show t < a.loc.length by rw [HN.out.loc]; exact htz)
    have HTZ := Aside0.mk htz
    have HBD := Aside0.mk (show m ≤ 60 from hm60)
    have HQA := Aside0.mk (HQ.out.below (below_alloc (Below.refl wr.heap.size wr) (.cells #[.int .i64 K, .int .i64 t0, .int .i64 id0, .int .u64 key, .int .u64 dr] 30)))
    obtain ⟨dn, hdn, hdn2⟩ : ∃ dn : Nat, dr = (dn : Int) ∧ dn < 18446744073709551616 := ⟨dr.toNat, by omega, by omega⟩
    subst hdn
    have HDN := Aside0.mk hdn2
    clear ht ht1 hgo hdn2
    by_cases hk01 : K = 0 ∨ K = 1
    · have HPUT := Aside0.mk (show ∀ W, QOk w W pq a m [] → Calls Tryz.prog 8 #[.pointer (some ⟨pq, 0, none⟩), .int .i64 t, .agg #[.int .u64 key, .int .i64 ((m : Int) + 1)]] W fun e w' => e = .returned (.int .i64 0) ∧ NrSt w w' pq (z + 1) k (m + 1) from fun W hw => by
       refine (qk_put hw (by have := HBD.out; omega) t HTL.out ⟨key, (m : Int) + 1⟩).mono ?_
       rintro e w' ⟨h1, h2⟩
       exact ⟨h1, ⟨⟨_, h2, HN.out.put HTZ.out rfl⟩⟩⟩)
      rcases hk01 with rfl | rfl
      · go_wp2_with fail
        refine (HPUT.out _ HQA.out).mono ?_
        rintro q w2 ⟨rfl, h2⟩
        have HS2 := Aside0.mk h2
        clear h2
        go_wp2
        go_roundw
        case rel => exact ⟨m + 1, by omega, by omega, by go_num, HS2⟩
        case measure => simp [intOf]; omega
      · go_wp2_with fail
        refine (HPUT.out _ HQA.out).mono ?_
        rintro q w2 ⟨rfl, h2⟩
        have HS2 := Aside0.mk h2
        clear h2
        go_wp2
        go_roundw
        case rel => exact ⟨m + 1, by omega, by omega, by go_num, HS2⟩
        case measure => simp [intOf]; omega
    · have n0 : (K == 0) = false := by rw [beq_eq_false_iff_ne]; omega
      have n1 : (K == 1) = false := by rw [beq_eq_false_iff_ne]; omega
      have n2 : ¬ K = 0 := by omega
      have n3 : ¬ K = 1 := by omega
      clear hk01
      by_cases hk2 : K = 2
      · subst hk2
        clear n0 n1 n2 n3
        go_wp2_with fail
        refine (qk_settle HQA.out (by have := HBD.out; omega) t HTL.out).mono ?_
        rintro q w2 ⟨rfl, h2⟩
        have HS2 := Aside0.mk (show NrSt w w2 pq (z + 1) k (m + 1) from ⟨⟨_, h2, (HN.out.settle t).mono (by omega)⟩⟩)
        clear h2
        go_wp2
        go_roundw
        case rel => exact ⟨m + 1, by omega, by omega, by go_num, HS2⟩
        case measure => simp [intOf]; omega
      · have n4 : (K == 2) = false := by rw [beq_eq_false_iff_ne]; omega
        go_wp2_with fail
        refine (qk_relaxed HQA.out (by have := HBD.out; omega) t HTL.out dn HDN.out).mono ?_
        rintro q w2 ⟨hq2, hb2⟩
        cases hre : relaxedQ a t dn with
        | none =>
         rw [hre] at hq2
         obtain rfl : q = .returned (.tuple #[.agg #[.int .u64 0, .int .i64 0], .bool false]) := hq2
         have HS2 := Aside0.mk (show NrSt w (w2.alloc (.cells #[.int .u64 0, .int .i64 0] 33)) pq (z + 1) k (m + 1) from ⟨⟨_, ((HQA.out.below hb2).below (below_alloc (Below.refl _ _) _)).mono (by omega), HN.out.mono (by omega)⟩⟩)
         clear hre hb2
         go_wp2
         go_roundw
         case rel => exact ⟨m + 1, by omega, by omega, by go_num, HS2⟩
         case measure => simp [intOf]; omega
        | some e =>
         rw [hre] at hq2
         obtain rfl : q = .returned (.tuple #[.agg #[.int .u64 e.f0, .int .i64 e.f1], .bool true]) := hq2
         have HQ2 := Aside0.mk ((HQA.out.below hb2).below (below_alloc (Below.refl w2.heap.size w2) (.cells #[.int .u64 e.f0, .int .i64 e.f1] 33)))
         have HTK := Aside0.mk (show (takeQ a e.f1).1 = true by
          rw [(ents_take HN.out.hl HN.out.un e.f1).1, List.any_eq_true]
          exact ⟨e, rel_mem hre, isId_true.2 rfl⟩)
         have hx1 : (w2.alloc (.cells #[.int .u64 e.f0, .int .i64 e.f1] 33)).cell? ⟨w2.heap.size, 1, none⟩ = some (.int .i64 e.f1) := (blk_cell (heap_alloc_new w2 (.cells #[.int .u64 e.f0, .int .i64 e.f1] 33)) 1).trans rfl
         clear hre hb2
         go_wp2_with fail
         refine (qk_take HQ2.out (by have := HBD.out; omega) (unlike_parts HN.out.un) e.f1).mono ?_
         rintro q w3 ⟨hq3, h3⟩
         rw [HTK.out] at hq3
         obtain rfl : q = .returned (.bool true) := hq3
         have HS3 := Aside0.mk (show NrSt w w3 pq (z + 1) k (m + 1) from ⟨⟨_, h3, (HN.out.take e.f1).mono (by omega)⟩⟩)
         clear h3 hx1
         go_wp2
         go_roundw
         case rel => exact ⟨m + 1, by omega, by omega, by go_num, HS3⟩
         case measure => simp [intOf]; omega
  · have HN60 := Aside0.mk (show m ≤ 60 from hm60)
    have hout : (¬ (m : Int) < (l.length : Int)) ∨ ((m : Int) < (l.length : Int) ∧ ¬ (m : Int) < 60) := by omega
    obtain ⟨L, hL⟩ : ∃ L, allQ a = L := ⟨_, rfl⟩
    have HL := Aside0.mk hL
    have HLL := Aside0.mk (show L.length ≤ 1000 by rw [← hL]; have h1 := allQ_le a; have h2 := hq.cnt; have h3 := hq.few; omega)
    have HLE := Aside0.mk (show L.Perm (entsQ a) by rw [← hL]; exact sortE_perm _)
    have hTl : a.loc.length = z + 1 := hn.loc
    have HTl := Aside0.mk hTl
    obtain ⟨M, hM⟩ : ∃ M, M = (z + 1) * k := ⟨_, rfl⟩
    have hMb : M ≤ 120 := by
     rw [hM]
     calc (z + 1) * k ≤ 8 * 15 := Nat.mul_le_mul (by omega) (by omega)
      _ = 120 := rfl
    have hMw : IntKind.i64.wrap (((z : Int) + 1) * (k : Int)) = (M : Int) := by
     rw [show ((z : Int) + 1) * (k : Int) = (M : Int) by rw [hM]; push_cast; rfl]
     exact IntWalk.i64_in _ (by omega)
    have HM := Aside0.mk hM
    have HSL := Aside0.mk (show (∀ j, SortedE (a.loc.getD j [])) ∧ SortedE a.sh from ⟨fun j => hq.sortedL j, hq.sorted⟩)
    have HFW := Aside0.mk hq.few
    clear hq hn hL hlt hTl hM hml HS
    rcases hout with hout | ⟨hout0, hout⟩
    · rename World => wo
      go_wp2_with fail
      refine (qk_all HQ.out (by have := HN60.out; omega)).mono ?_
      rintro q w2 ⟨v2, rfl, hv2, hb2⟩
      rw [HL.out] at hv2
      obtain ⟨A2, c2, rfl⟩ := Kd.V_slice hv2
      have HV2 := Aside0.mk (Kd.V_reads' hv2)
      have HQ2 := Aside0.mk (HQ.out.below hb2)
      clear hv2 hb2 hout
      go_wp2_with fail
      go_loopw [17] (fun i wr => ∃ j : Nat, j ≤ z + 1 ∧ i = .int .i64 j ∧ Aside0 (Below w2.heap.size w2 wr)) (fun i _ => z + 1 - (intOf i).toNat)
      case atStart => exact ⟨0, Nat.zero_le _, rfl, ⟨Below.refl _ _⟩⟩
      case round =>
       obtain ⟨j, hj, rfl, HB⟩ := hrel
       by_cases hlt : j < z + 1
       · have hlt2 : (j : Int) < (z : Int) + 1 := by omega
         have HJT := Aside0.mk (show j < a.loc.length by rw [HTl.out]; exact hlt)
         have HQJ := Aside0.mk (HQ2.out.below HB.out)
         obtain ⟨n1, hn1⟩ : ∃ n1, (a.loc.getD j []).length = n1 := ⟨_, rfl⟩
         have hn1k : n1 ≤ k := by rw [← hn1]; exact HN.out.few j
         have HLOC := Aside0.mk (show ∀ W, Below wr.heap.size wr W → Calls Tryz.prog 28 #[.pointer (some ⟨pq, 0, none⟩), .int .i64 j] W fun e w' => (∃ A c, e = .returned (.slice A n1 c)) ∧ Below W.heap.size W w' from fun W hb => by
          refine (qk_local (HQJ.out.below hb) (by have := HN60.out; omega) j HJT.out).mono ?_
          rintro e w' ⟨v, rfl, hv, hb'⟩
          obtain ⟨A, c, rfl⟩ := Kd.V_slice hv
          exact ⟨⟨A, c, by rw [hn1]⟩, hb'⟩)
         clear hn1
         go_wp2_with fail
         refine (qk_relaxed HQJ.out (by have := HN60.out; omega) j HJT.out d HD.out).mono ?_
         rintro q w3 ⟨hq3, hb3⟩
         cases hre : relaxedQ a j d with
         | none =>
          rw [hre] at hq3
          obtain rfl : q = .returned (.tuple #[.agg #[.int .u64 0, .int .i64 0], .bool false]) := hq3
          have hL0 : L = [] := List.length_eq_zero_iff.1 (by rw [HLE.out.length_eq, rel_empty HFW.out.2.1 HJT.out hre]; rfl)
          have HB3 := Aside0.mk (below_step hb3 (below_alloc (Below.refl w3.heap.size w3) (.cells #[.int .u64 0, .int .i64 0] 33)))
          have HLC := Aside0.mk (HLOC.out _ HB3.out)
          have hL1 : ¬ (0 : Int) < (L.length : Int) := by rw [hL0]; simp
          have hL2 : ¬ 0 < L.length := by rw [hL0]; simp
          have hL3 : decide (L = []) = true := decide_eq_true hL0
          have hL4 : decide ((L.length : Int) > 0) = false := decide_eq_false hL1
          clear hre hb3 hL0
          go_wp2_with fail
          refine HLC.out.mono ?_
          rintro q w4 ⟨⟨A4, c4, rfl⟩, hb4⟩
          have HB4 := Aside0.mk (below_step HB.out (below_step HB3.out hb4))
          clear hb4
          go_wp2
          go_roundw
          case rel => exact ⟨j + 1, by omega, by go_num, HB4⟩
          case measure => simp [intOf]; omega
         | some e =>
          rw [hre] at hq3
          obtain rfl : q = .returned (.tuple #[.agg #[.int .u64 e.f0, .int .i64 e.f1], .bool true]) := hq3
          have HB3 := Aside0.mk (below_step hb3 (below_alloc (Below.refl w3.heap.size w3) (.cells #[.int .u64 e.f0, .int .i64 e.f1] 33)))
          obtain ⟨w4, hw4⟩ : ∃ w4 : World, w4 = w3.alloc (.cells #[.int .u64 e.f0, .int .i64 e.f1] 33) := ⟨_, rfl⟩
          obtain ⟨X, hX⟩ : ∃ X, X = w3.heap.size := ⟨_, rfl⟩
          have HX := Aside0.mk (heap_alloc_new w3 (.cells #[.int .u64 e.f0, .int .i64 e.f1] 33))
          have hmem := rel_mem hre
          have HANY := Aside0.mk (show L.any (isId e.f1) = true by rw [any_perm HLE.out, List.any_eq_true]; exact ⟨e, hmem, isId_true.2 rfl⟩)
          have hLp : 0 < L.length := by
           rw [HLE.out.length_eq]
           cases hh : entsQ a with
           | nil => rw [hh] at hmem; simp at hmem
           | cons _ _ => simp
          obtain ⟨p, hp⟩ : ∃ p, placeE L e = p := ⟨_, rfl⟩
          have hpM : p ≤ M + (z + 1) := by
           rw [← hp, ← HL.out, HM.out]
           exact rel_near HN.out hlt HSL.out.1 HSL.out.2 hre
          have HPL := Aside0.mk (show vergerref5_Place.f 2000 L e.f0 e.f1 = some ((p : Nat) : Int) by rw [refplace_told 2000 L e.f0 e.f1 (by have := HLL.out; omega) (by have := HLL.out; omega), ← hp])
          have HHS := Aside0.mk (show vergerref5_Has.f 2000 L e.f1 = some true by rw [has_any 2000 L e.f1 (by have := HLL.out; omega) (by have := HLL.out; omega), HANY.out])
          have hL1 : (0 : Int) < (L.length : Int) := by omega
          have hL2 : ¬ L.length = 0 := by omega
          have hp1 : ¬ (M : Int) + ((z : Int) + 1) < (p : Int) := by omega
          clear hre hb3 hmem hp
          go_upto_region 25 with fail
          rw [← hw4, ← hX] at HX
          rw [← hw4] at HB3
          rw [← hw4, ← hX]
          clear hw4 hX
          have x0 : w4.cell? ⟨X, 0, none⟩ = some (.int .u64 e.f0) := (blk_cell HX.out 0).trans rfl
          have x1 : w4.cell? ⟨X, 1, none⟩ = some (.int .i64 e.f1) := (blk_cell HX.out 1).trans rfl
          have HC4 := Aside0.mk (Kd.C_below HV2.out.2.2 (below_step HB.out HB3.out))
          go_wp2_with fail
          refine (vergerref5_Place.calls 2000 A2 c2 L _ _ _ _ HC4.out HV2.out.2.1 HPL.out).mono ?_
          rintro q w5 ⟨rfl, hb5⟩
          have x1' := pw_cell_below hb5 x1
          have HC5 := Aside0.mk (Kd.C_below HC4.out hb5)
          have HB5 := Aside0.mk (below_step HB3.out hb5)
          clear hb5 x0 x1
          go_wp2_with fail
          refine (vergerref5_Has.calls 2000 A2 c2 L _ _ _ HC5.out HV2.out.2.1 HHS.out).mono ?_
          rintro q w6 ⟨rfl, ⟨nd, rfl⟩⟩
          have HB6 := Aside0.mk (show Below wr.heap.size wr (w5.drewN nd) from pw_below_drewN HB5.out nd)
          have HLC := Aside0.mk (HLOC.out _ HB6.out)
          clear x1'
          go_wp2_with fail
          refine HLC.out.mono ?_
          rintro q w7 ⟨⟨A7, c7, rfl⟩, hb7⟩
          have HB7 := Aside0.mk (below_step HB.out (below_step HB6.out hb7))
          clear hb7
          go_wp2
          go_roundw
          case rel => exact ⟨j + 1, by omega, by go_num, HB7⟩
          case measure => simp [intOf]; omega
       · obtain rfl : j = z + 1 := by omega
         have hlt2 : ¬ (((z + 1 : Nat)) : Int) < (z : Int) + 1 := by omega
         have HBW := Aside0.mk (HQ2.out.below HB.out).bel
         go_wp2_with fail
         refine (awake10 _).mono ?_
         rintro q w4 ⟨rfl, hb4⟩
         have HB4 := Aside0.mk (below_step HBW.out hb4)
         clear hb4
         go_wp2
         go_ret
         exact ⟨by first | rfl | simp, HB4.out⟩
    · rename World => wo
      go_wp2_with fail
      refine (qk_all HQ.out (by have := HN60.out; omega)).mono ?_
      rintro q w2 ⟨v2, rfl, hv2, hb2⟩
      rw [HL.out] at hv2
      obtain ⟨A2, c2, rfl⟩ := Kd.V_slice hv2
      have HV2 := Aside0.mk (Kd.V_reads' hv2)
      have HQ2 := Aside0.mk (HQ.out.below hb2)
      clear hv2 hb2 hout
      go_wp2_with fail
      go_loopw [17] (fun i wr => ∃ j : Nat, j ≤ z + 1 ∧ i = .int .i64 j ∧ Aside0 (Below w2.heap.size w2 wr)) (fun i _ => z + 1 - (intOf i).toNat)
      case atStart => exact ⟨0, Nat.zero_le _, rfl, ⟨Below.refl _ _⟩⟩
      case round =>
       obtain ⟨j, hj, rfl, HB⟩ := hrel
       by_cases hlt : j < z + 1
       · have hlt2 : (j : Int) < (z : Int) + 1 := by omega
         have HJT := Aside0.mk (show j < a.loc.length by rw [HTl.out]; exact hlt)
         have HQJ := Aside0.mk (HQ2.out.below HB.out)
         obtain ⟨n1, hn1⟩ : ∃ n1, (a.loc.getD j []).length = n1 := ⟨_, rfl⟩
         have hn1k : n1 ≤ k := by rw [← hn1]; exact HN.out.few j
         have HLOC := Aside0.mk (show ∀ W, Below wr.heap.size wr W → Calls Tryz.prog 28 #[.pointer (some ⟨pq, 0, none⟩), .int .i64 j] W fun e w' => (∃ A c, e = .returned (.slice A n1 c)) ∧ Below W.heap.size W w' from fun W hb => by
          refine (qk_local (HQJ.out.below hb) (by have := HN60.out; omega) j HJT.out).mono ?_
          rintro e w' ⟨v, rfl, hv, hb'⟩
          obtain ⟨A, c, rfl⟩ := Kd.V_slice hv
          exact ⟨⟨A, c, by rw [hn1]⟩, hb'⟩)
         clear hn1
         go_wp2_with fail
         refine (qk_relaxed HQJ.out (by have := HN60.out; omega) j HJT.out d HD.out).mono ?_
         rintro q w3 ⟨hq3, hb3⟩
         cases hre : relaxedQ a j d with
         | none =>
          rw [hre] at hq3
          obtain rfl : q = .returned (.tuple #[.agg #[.int .u64 0, .int .i64 0], .bool false]) := hq3
          have hL0 : L = [] := List.length_eq_zero_iff.1 (by rw [HLE.out.length_eq, rel_empty HFW.out.2.1 HJT.out hre]; rfl)
          have HB3 := Aside0.mk (below_step hb3 (below_alloc (Below.refl w3.heap.size w3) (.cells #[.int .u64 0, .int .i64 0] 33)))
          have HLC := Aside0.mk (HLOC.out _ HB3.out)
          have hL1 : ¬ (0 : Int) < (L.length : Int) := by rw [hL0]; simp
          have hL2 : ¬ 0 < L.length := by rw [hL0]; simp
          have hL3 : decide (L = []) = true := decide_eq_true hL0
          have hL4 : decide ((L.length : Int) > 0) = false := decide_eq_false hL1
          clear hre hb3 hL0
          go_wp2_with fail
          refine HLC.out.mono ?_
          rintro q w4 ⟨⟨A4, c4, rfl⟩, hb4⟩
          have HB4 := Aside0.mk (below_step HB.out (below_step HB3.out hb4))
          clear hb4
          go_wp2
          go_roundw
          case rel => exact ⟨j + 1, by omega, by go_num, HB4⟩
          case measure => simp [intOf]; omega
         | some e =>
          rw [hre] at hq3
          obtain rfl : q = .returned (.tuple #[.agg #[.int .u64 e.f0, .int .i64 e.f1], .bool true]) := hq3
          have HB3 := Aside0.mk (below_step hb3 (below_alloc (Below.refl w3.heap.size w3) (.cells #[.int .u64 e.f0, .int .i64 e.f1] 33)))
          obtain ⟨w4, hw4⟩ : ∃ w4 : World, w4 = w3.alloc (.cells #[.int .u64 e.f0, .int .i64 e.f1] 33) := ⟨_, rfl⟩
          obtain ⟨X, hX⟩ : ∃ X, X = w3.heap.size := ⟨_, rfl⟩
          have HX := Aside0.mk (heap_alloc_new w3 (.cells #[.int .u64 e.f0, .int .i64 e.f1] 33))
          have hmem := rel_mem hre
          have HANY := Aside0.mk (show L.any (isId e.f1) = true by rw [any_perm HLE.out, List.any_eq_true]; exact ⟨e, hmem, isId_true.2 rfl⟩)
          have hLp : 0 < L.length := by
           rw [HLE.out.length_eq]
           cases hh : entsQ a with
           | nil => rw [hh] at hmem; simp at hmem
           | cons _ _ => simp
          obtain ⟨p, hp⟩ : ∃ p, placeE L e = p := ⟨_, rfl⟩
          have hpM : p ≤ M + (z + 1) := by
           rw [← hp, ← HL.out, HM.out]
           exact rel_near HN.out hlt HSL.out.1 HSL.out.2 hre
          have HPL := Aside0.mk (show vergerref5_Place.f 2000 L e.f0 e.f1 = some ((p : Nat) : Int) by rw [refplace_told 2000 L e.f0 e.f1 (by have := HLL.out; omega) (by have := HLL.out; omega), ← hp])
          have HHS := Aside0.mk (show vergerref5_Has.f 2000 L e.f1 = some true by rw [has_any 2000 L e.f1 (by have := HLL.out; omega) (by have := HLL.out; omega), HANY.out])
          have hL1 : (0 : Int) < (L.length : Int) := by omega
          have hL2 : ¬ L.length = 0 := by omega
          have hp1 : ¬ (M : Int) + ((z : Int) + 1) < (p : Int) := by omega
          clear hre hb3 hmem hp
          go_upto_region 25 with fail
          rw [← hw4, ← hX] at HX
          rw [← hw4] at HB3
          rw [← hw4, ← hX]
          clear hw4 hX
          have x0 : w4.cell? ⟨X, 0, none⟩ = some (.int .u64 e.f0) := (blk_cell HX.out 0).trans rfl
          have x1 : w4.cell? ⟨X, 1, none⟩ = some (.int .i64 e.f1) := (blk_cell HX.out 1).trans rfl
          have HC4 := Aside0.mk (Kd.C_below HV2.out.2.2 (below_step HB.out HB3.out))
          go_wp2_with fail
          refine (vergerref5_Place.calls 2000 A2 c2 L _ _ _ _ HC4.out HV2.out.2.1 HPL.out).mono ?_
          rintro q w5 ⟨rfl, hb5⟩
          have x1' := pw_cell_below hb5 x1
          have HC5 := Aside0.mk (Kd.C_below HC4.out hb5)
          have HB5 := Aside0.mk (below_step HB3.out hb5)
          clear hb5 x0 x1
          go_wp2_with fail
          refine (vergerref5_Has.calls 2000 A2 c2 L _ _ _ HC5.out HV2.out.2.1 HHS.out).mono ?_
          rintro q w6 ⟨rfl, ⟨nd, rfl⟩⟩
          have HB6 := Aside0.mk (show Below wr.heap.size wr (w5.drewN nd) from pw_below_drewN HB5.out nd)
          have HLC := Aside0.mk (HLOC.out _ HB6.out)
          clear x1'
          go_wp2_with fail
          refine HLC.out.mono ?_
          rintro q w7 ⟨⟨A7, c7, rfl⟩, hb7⟩
          have HB7 := Aside0.mk (below_step HB.out (below_step HB6.out hb7))
          clear hb7
          go_wp2
          go_roundw
          case rel => exact ⟨j + 1, by omega, by go_num, HB7⟩
          case measure => simp [intOf]; omega
       · obtain rfl : j = z + 1 := by omega
         have hlt2 : ¬ (((z + 1 : Nat)) : Int) < (z : Int) + 1 := by omega
         have HBW := Aside0.mk (HQ2.out.below HB.out).bel
         go_wp2_with fail
         refine (awake10 _).mono ?_
         rintro q w4 ⟨rfl, hb4⟩
         have HB4 := Aside0.mk (below_step HBW.out hb4)
         clear hb4
         go_wp2
         go_ret
         exact ⟨by first | rfl | simp, HB4.out⟩
end Go.Proofs.YthghkglkifeagaaGreat.V
end
section
set_option linter.unusedVariables false
set_option linter.unusedSimpArgs false
namespace Go.Proofs.YthghkglkifeagaaGreat.VOpen
open Go.RowKit Go.Proofs.YthghkglkifeagaaGreatW.PrintWords Go.Deep Go.ChangeShapes Go.WideShapes
structure Fits {α : Type} (P : Program) (t : TypeId) (d : Kd α) (good : α → Prop) : Prop where
  sz : P.cellsOf t = d.sz
  opens : ∀ {H : Type} {enc : TypeId × Value → H} {w : World} {base : Nat} {spare : Nat → Bool} {held : Bool} {fuel : Nat} {cs : List Value} {x : DataW H × List MemPlace},
    DataW.trod enc P w base spare held fuel t cs = some x → ∃ a, d.K w a cs ∧ good a
theorem fits_int {P : Program} {t : TypeId} {k : IntKind} (ht : P.underlying t = some (.int k)) (hc : P.cellsOf t = 1) : Fits P t (Kd.int k) (fun n => (Lit.int k n).wf = true) where
 sz := hc
 opens := fun h => by
  obtain ⟨n, rfl, _, hw⟩ := DataW.trod_int ht h
  exact ⟨n, rfl, hw⟩
theorem fits_iso {α β : Type} {P : Program} {t : TypeId} {d : Kd α} {good : α → Prop} (f : β → α) (g : α → β) (hfg : ∀ a, f (g a) = a) (h : Fits P t d good) : Fits P t (Kd.iso d f) (fun b => good (f b)) where
 sz := h.sz
 opens := fun hx => by
  obtain ⟨a, hk, hg⟩ := h.opens hx
  exact ⟨g a, by show d.K _ (f (g a)) _; rw [hfg]; exact hk, by rw [hfg]; exact hg⟩
structure FitsRow {α : Type} (P : Program) (fs : List Field) (o : Nat) (d : Kd α) (good : α → Prop) : Prop where
  opens : ∀ {H : Type} {enc : TypeId × Value → H} {w : World} {base : Nat} {spare : Nat → Bool} {held : Bool} {n : Nat} {cs : List Value} {xs : List (DataW H × List MemPlace)},
    cs.length = d.sz → xs.length = fs.length →
    (∀ (i : Nat) (f : Field), fs[i]? = some f → DataW.trod enc P w base spare held n f.type ((cs.drop (f.offset - o)).take (P.cellsOf f.type)) = xs[i]?) → (∀ (i : Nat) (f : Field), fs[i]? = some f → o ≤ f.offset) → ∃ a, d.K w a cs ∧ good a
theorem fitsRow_one {α : Type} {P : Program} {f : Field} {o : Nat} {d : Kd α} {good : α → Prop} (ho : f.offset = o) (h : Fits P f.type d good) : FitsRow P [f] o d good where
 opens := fun {H enc w base spare held n cs xs} hl hx hf _ => by
  match xs, hx with
  | [x], _ =>
   have := hf 0 f rfl
   rw [ho, Nat.sub_self, List.drop_zero, h.sz, List.take_of_length_le (Nat.le_of_eq hl)] at this
   exact h.opens this
theorem fitsRow_cons {α β : Type} {P : Program} {f : Field} {fs : List Field} {o : Nat} {a : Kd α} {b : Kd β} {ga : α → Prop} {gb : β → Prop} (ho : f.offset = o) (hos : ∀ (i : Nat) (f' : Field), fs[i]? = some f' → o + a.sz ≤ f'.offset)
 (h : Fits P f.type a ga) (hs : FitsRow P fs (o + a.sz) b gb) : FitsRow P (f :: fs) o (Kd.pair a b) (fun p => ga p.1 ∧ gb p.2) where
 opens := fun {H enc w base spare held n cs xs} hl hx hf _ => by
  match xs, hx with
  | x :: xs, hx =>
   have hl' : cs.length = a.sz + b.sz := hl
   have h0 := hf 0 f rfl
   rw [ho, Nat.sub_self, List.drop_zero, h.sz] at h0
   obtain ⟨u, hu, gu⟩ := h.opens h0
   obtain ⟨v, hv, gv⟩ := hs.opens (cs := cs.drop a.sz) (xs := xs) (by rw [List.length_drop]; omega) (by simpa using hx) (fun i f' hi => by
    have h1 := hf (i + 1) f' hi
    have h2 := hos i f' hi
    rw [List.drop_drop, show a.sz + (f'.offset - (o + a.sz)) = f'.offset - o from by omega]
    exact h1) hos
   exact ⟨(u, v), ⟨cs.take a.sz, cs.drop a.sz, (List.take_append_drop _ _).symm, hu, hv⟩, gu, gv⟩
theorem fits_struct {α : Type} {P : Program} {t : TypeId} {fs : Array Field} {d : Kd α} {good : α → Prop} (ht : P.underlying t = some (.struct fs)) (hc : P.cellsOf t = d.sz) (h : FitsRow P fs.toList 0 d good) : Fits P t d good where
 sz := hc
 opens := fun hx => by
  obtain ⟨xs, n, _, _, hl, hxl, hf⟩ := DataW.trod_struct ht hx
  exact h.opens (xs := xs) (n := n) (by rw [hl, hc]) (by rw [hxl]; simp) (fun i f hi => by
   have := hf i f (by simpa using hi)
   rw [Nat.sub_zero]
   exact this) (fun _ _ _ => Nat.zero_le _)
theorem filter_all {α : Type} (f : Nat → Option α) : ∀ (len : Nat), (∀ i, i < len → ∃ u, f i = some u) → ((List.range len).filterMap f).length = len ∧ ∀ i, i < len → ((List.range len).filterMap f)[i]? = f i := by
 intro len
 induction len with
 | zero => simp
 | succ k ih =>
  intro hf
  obtain ⟨h1, h2⟩ := ih (fun i hi => hf i (by omega))
  obtain ⟨u, hu⟩ := hf k (by omega)
  rw [List.range_succ, List.filterMap_append]
  simp only [List.filterMap_cons, hu, List.filterMap_nil]
  refine ⟨by simp [h1], fun i hi => ?_⟩
  by_cases hik : i < k
  · rw [List.getElem?_append_left (by omega)]
    exact h2 i hik
  · have : i = k := by omega
    subst this
    rw [List.getElem?_append_right (by omega), h1, hu]
    simp
theorem fits_slice {α : Type} {P : Program} {t e : TypeId} {d : Kd α} {good : α → Prop} (ht : P.underlying t = some (.slice e)) (hc : P.cellsOf t = 1) (h : Fits P e d good) : Fits P t (Kd.slice e d) (fun l => ∀ x ∈ l, good x) where
 sz := hc
 opens := fun {H enc w base spare held fuel cs x} hx => by
  rcases open_slice ht hx with ⟨rfl, _⟩ | ⟨a, len, cap, m, n, D, Pl, rfl, _, hl, hm, hmm, _, hcell⟩
  · exact ⟨[], ⟨none, 0, rfl, Nat.le_refl _, rfl, by simp, fun h0 => absurd h0 (by simp)⟩, by simp⟩
  · have hlm : len ≤ m := by rw [hmm]; split <;> omega
    have each : ∀ i, i < len → ∃ u : α, (∃ c, c.length = d.sz ∧ d.K w u c ∧ ∀ j v, c[j]? = some v → w.cell? (a.add (i * d.sz + j)) = some v) ∧ good u := by
     intro i hi
     obtain ⟨c, h1, h2⟩ := hcell i (by omega)
     rw [h.sz] at h1
     obtain ⟨_, h3, h4⟩ := World.cells?_some h1
     obtain ⟨u, hu, gu⟩ := h.opens h2
     refine ⟨u, ⟨c, h3, hu, fun j v hj => ?_⟩, gu⟩
     have hjl : j < d.sz := by have := (List.getElem?_eq_some_iff.1 hj).1; omega
     have := h4 j hjl
     rw [Addr.add_add] at this
     rw [this, hj]
    have hex : ∃ f : Nat → Option α, ∀ i, i < len → ∃ u, f i = some u ∧ (∃ c, c.length = d.sz ∧ d.K w u c ∧ ∀ j v, c[j]? = some v → w.cell? (a.add (i * d.sz + j)) = some v) ∧ good u := by
     classical
     refine ⟨fun i => if hi : i < len then some (Classical.choose (each i hi)) else none, fun i hi => ⟨Classical.choose (each i hi), by simp [hi], Classical.choose_spec (each i hi)⟩⟩
    obtain ⟨f, hf⟩ := hex
    have hlen := filter_all f len (fun i hi => (hf i hi).imp fun _ h => h.1)
    refine ⟨(List.range len).filterMap f, ⟨some a, cap, by rw [hlen.1], by rw [hlen.1]; exact hl, rfl, by rw [hlen.1]; unfold maxLen at hm; omega, fun _ => ⟨a, rfl, fun j p hj => ?_⟩⟩, fun x hx => ?_⟩
    · have hjl : j < len := by have := (List.getElem?_eq_some_iff.1 hj).1; rw [hlen.1] at this; exact this
      obtain ⟨u, hu, hc, _⟩ := hf j hjl
      rw [hlen.2 j hjl, hu] at hj
      injection hj with hj
      subst hj
      exact hc
    · obtain ⟨j, hj⟩ := List.mem_iff_getElem?.1 hx
      have hjl : j < len := by have := (List.getElem?_eq_some_iff.1 hj).1; rw [hlen.1] at this; exact this
      obtain ⟨u, hu, _, gu⟩ := hf j hjl
      rw [hlen.2 j hjl, hu] at hj
      injection hj with hj
      subst hj
      exact gu
theorem slice_arg {α : Type} {P : Program} {t e : TypeId} {d : Kd α} {good : List α → Prop} (h : Fits P t (Kd.slice e d) good) {H : Type} {enc : TypeId × Value → H} {w : World} {base : Nat} {spare : Nat → Bool} {held : Bool} {fuel : Nat} {v : Value}
 {x : DataW H × List MemPlace} {A : Option Addr} {len cap : Nat} (hv : v = .slice A len cap) (hx : DataW.trod enc P w base spare held fuel t v.cells.toList = some x) : ∃ l : List α, len = l.length ∧ l.length ≤ cap ∧ d.C w A l.length l ∧ good l := by
 subst hv
 obtain ⟨l, ⟨A', c', hcs, hl, hC⟩, hg⟩ := h.opens hx
 simp only [Value.cells, List.cons.injEq, and_true, Value.slice.injEq] at hcs
 obtain ⟨rfl, rfl, rfl⟩ := hcs
 exact ⟨l, rfl, hl, hC, hg⟩
theorem slice_bound {P : Program} {t e : TypeId} (ht : P.underlying t = some (.slice e)) {H : Type} {enc : TypeId × Value → H} {w : World} {base : Nat} {spare : Nat → Bool} {held : Bool} {fuel : Nat}
 {x : DataW H × List MemPlace} {A : Option Addr} {len cap : Nat} (hx : DataW.trod enc P w base spare held fuel t (Value.slice A len cap).cells.toList = some x)
 {ts : List TypeId} {ds : List (DataW H)} (hs : (DataW.weightsEach P ts ds).all (· ≤ reachBytes) = true) {j : Nat} (h1 : ts[j]? = some t) (h2 : ds[j]? = some x.1) {b : Nat} (hb : P.bytesOf e = b) : len * b ≤ 140737488351232 := by
 rcases DataW.trod_slice ht hx with ⟨hc, rfl⟩ | ⟨a, len', cap', elems, rest, n, _, hc, rfl, _, _, _, hl, _⟩
 · simp only [Value.cells, List.cons.injEq, and_true, Value.slice.injEq] at hc
   obtain ⟨rfl, rfl, rfl⟩ := hc
   omega
 · simp only [Value.cells, List.cons.injEq, and_true, Value.slice.injEq] at hc
   obtain ⟨rfl, rfl, rfl⟩ := hc
   have := sized_slice hs h1 h2 ht
   rw [hb, List.length_map, hl] at this
   refine Nat.le_trans (Nat.mul_le_mul_right b (Nat.le_add_right len _)) this
end Go.Proofs.YthghkglkifeagaaGreat.VOpen
end
section
set_option linter.unusedVariables false
set_option linter.unusedSimpArgs false
namespace Go.Proofs.YthghkglkifeagaaGreat.V
open Go.RowKit Go.Proofs.YthghkglkifeagaaGreatW.PrintWords Go.Proofs.YthghkglkifeagaaGreatW.PrintLast Go.Proofs.YthghkglkifeagaaGreatW.PrintMore
def vergerlaw10_QueueNear.f (a0 a1 : Int) (l2 : List S30) (a3 : Int) : Option Bool := if (∀ o ∈ l2, 0 ≤ o.f4 ∧ o.f4 < 18446744073709551616) ∧ 0 ≤ a3 ∧ a3 < 18446744073709551616 then some true else none
theorem vergerlaw10_QueueNear.calls (a0 a1 : Int) (A2 : Option Addr) (c2 : Nat) (l2 : List S30) (a3 : Int) (r : Bool) (w : World) (hr2 : Kd.C k30 w A2 l2.length l2) (hc2 : l2.length ≤ c2) (h : vergerlaw10_QueueNear.f a0 a1 l2 a3 = some r) :
 Calls Tryz.prog 6 #[.int .i64 a0, .int .i64 a1, .slice A2 l2.length c2, .int .u64 a3] w fun e w' => e = .returned (.bool r) ∧ Below w.heap.size w w' := by
 unfold vergerlaw10_QueueNear.f at h
 by_cases hl : (∀ o ∈ l2, 0 ≤ o.f4 ∧ o.f4 < 18446744073709551616) ∧ 0 ≤ a3 ∧ a3 < 18446744073709551616
 · rw [if_pos hl] at h
   obtain rfl := Option.some.inj h
   obtain ⟨hg, h0, h1⟩ := hl
   obtain ⟨d, rfl⟩ : ∃ d : Nat, a3 = (d : Int) := ⟨a3.toNat, by omega⟩
   exact queueNear_walk a0 a1 A2 c2 l2 d w hr2 hc2 hg (by omega)
 · rw [if_neg hl] at h
   cases h
theorem wf_u64 {x : Int} (h : (Lit.int .u64 x).wf = true) : 0 ≤ x ∧ x < 18446744073709551616 := by
 simp [Lit.wf, IntKind.min, IntKind.max, IntKind.signed, IntKind.bits] at h
 omega
theorem QueueNear_pure (a0 a1 : Int) (l2 : List S30) (a3 : Int) {P Q R : Prop} (_ : P) (_ : Q) (_ : R) (hg : ∀ x ∈ l2, (Lit.int .i64 x.f0).wf = true ∧ (Lit.int .i64 x.f1).wf = true ∧ (Lit.int .i64 x.f2).wf = true ∧ (Lit.int .u64 x.f3).wf = true ∧ (Lit.int .u64 x.f4).wf = true) (h : (Lit.int .u64 a3).wf = true) : vergerlaw10_QueueNear.f a0 a1 l2 a3 = some true :=
 if_pos ⟨fun o ho => wf_u64 (hg o ho).2.2.2.2, wf_u64 h⟩
end Go.Proofs.YthghkglkifeagaaGreat.V
end
