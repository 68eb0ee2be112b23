-- a text of this work, without what this claim doesn't use (wip/shake.py)
import Derived.Test.YthcnpkkpjfigeaaKVXSort
import Derived.Test.YthcnpkkpjfigeaaKVP6
import Derived.Test.YthcnpkkpjfigeaaKVUEntryLeast
import Derived.Test.YthcnpkkpjfigeaaKVPEntryRanksLb
set_option linter.unusedVariables false
set_option linter.unusedSimpArgs false
namespace Go.Proofs.Ythcnpkkpjfigeaa.V
open Go.RowKit Go.Proofs.YthcnpkkpjfigeaaW.PrintWords Go.Proofs.YthcnpkkpjfigeaaW.PrintLast Go.Proofs.YthcnpkkpjfigeaaW.PrintMore
theorem bne_same (a b : E) (h : a = b) : (!(a.f0 == b.f0) || (!(a.f1 == b.f1))) = false := by subst h; simp
theorem sort_some {l : List E} (h : l.length < 1000000000) : entry_Sort.f l = some (sortE l) := if_pos h
theorem ranks_loop (s : List E) (hs : SortedE s) (hl : s.length ≤ 100) : ∀ (d k i : Nat), s.length - i = d → i ≤ s.length → d + s.length + 20 ≤ k → vergerlaw5_EntryRanks.l0 k s (i : Int) = some true := by
 intro d
 induction d with
 | zero =>
  intro k i hd hi hk
  obtain ⟨k, rfl, _⟩ := succ_of (show 0 < k by omega)
  simp only [vergerlaw5_EntryRanks.l0]
  rw [if_neg (by omega), awake5 k (by omega)]
  rfl
 | succ d ih =>
  intro k i hd hi hk
  obtain ⟨k, rfl, _⟩ := succ_of (show 0 < k by omega)
  have hlt : i < s.length := by omega
  have hz : (i : Int) < (s.length : Int) := by omega
  have h0 : (0 : Int) ≤ (i : Int) := by omega
  have hnext := ih k (i + 1) (by omega) (by omega) (by omega)
  have hps := placeE_sorted hs s[i]
  have hi1 : ¬ ((placeE s s[i] : Nat) : Int) > (i : Int) := by
   have := hps i _ (List.getElem?_eq_getElem hlt)
   rw [ltE_irrefl] at this
   simp at this
   omega
  simp only [vergerlaw5_EntryRanks.l0, if_pos hz, if_pos h0, rd_get hlt, place_told k s hs _ _ (show s.length < 1000000000 by omega) (show s.length + 4 ≤ k by omega), Option.bind_some, wrap_nat (show i ≤ 4611686018427387904 by omega)]
  rw [show (⟨(s[i]).f0, (s[i]).f1⟩ : E) = s[i] from rfl, if_neg hi1]
  by_cases hq : ((placeE s s[i] : Nat) : Int) < (i : Int)
  · have hj : placeE s s[i] < s.length := by omega
    have hjs := hps _ _ (List.getElem?_eq_getElem hj)
    have hle := sorted_get hs (show placeE s s[i] < i by omega) (List.getElem?_eq_getElem hj) (List.getElem?_eq_getElem hlt)
    have hne : s[placeE s s[i]] = s[i] := by
     apply leE_antisymm hle
     cases hc : ltE s[placeE s s[i]] s[i] with
     | true => have := hjs.1 hc; omega
     | false => simp [leE, hc]
    rw [if_pos hq, rd_get hj, if_pos (by omega), if_pos (by omega), bne_same _ _ hne]
    simpa using hnext
  · rw [if_neg hq]
    exact hnext
def least2 : List E → List E → Int → Int → Int × Int × Int × Bool
  | [], [], _, _ => (0, 0, 0, false)
  | [], y :: _, _, q => (y.f0, y.f1, q, true)
  | x :: _, [], p, _ => (x.f0, x.f1, p, true)
  | x :: _, y :: _, p, q => if ltE y x = true then (y.f0, y.f1, q, true) else (x.f0, x.f1, p, true)
theorem least_nil {k : Nat} {l : List (List E)} {i : Nat} {at1 e0 e1 : Int} {ok : Bool} (hl : l.length < 1000000000) (hi : i < l.length) (h : l[i] = []) : entry_Least.l0 (k + 1) at1 ok l (l.length : Int) (i : Int) e0 e1 = entry_Least.l0 k at1 ok l (l.length : Int) ((i + 1 : Nat) : Int) e0 e1 := by
 have hz : (i : Int) < (l.length : Int) := by omega
 have h0 : (0 : Int) ≤ (i : Int) := by omega
 have hn : ¬ ((([] : List E).length : Int)) > 0 := by simp
 simp only [entry_Least.l0, if_pos hz, if_pos h0, rdL_nat l i hi, h, if_neg hn, wrap_nat (show i ≤ 4611686018427387904 by omega)]
theorem least_first {k : Nat} {l : List (List E)} {i : Nat} {at1 e0 e1 : Int} {b : E} {m : List E} (hl : l.length < 1000000000) (hi : i < l.length) (h : l[i] = b :: m) : entry_Least.l0 (k + 1) at1 false l (l.length : Int) (i : Int) e0 e1 = entry_Least.l0 k (i : Int) true l (l.length : Int) ((i + 1 : Nat) : Int) b.f0 b.f1 := by
 have hz : (i : Int) < (l.length : Int) := by omega
 have h0 : (0 : Int) ≤ (i : Int) := by omega
 have hp : ((b :: m).length : Int) > 0 := by simp
 have hp' : 0 < ((b :: m).length : Int) := hp
 have hrd : rd_T33 (b :: m) 0 = b := rfl
 simp only [entry_Least.l0, if_pos hz, if_pos h0, rdL_nat l i hi, h, if_pos hp, if_pos hp', hrd, wrap_nat (show i ≤ 4611686018427387904 by omega), Bool.false_eq_true, if_false]
theorem least_next {k : Nat} {l : List (List E)} {i : Nat} {at1 : Int} {e b : E} {m : List E} (hk : 3 ≤ k) (hl : l.length < 1000000000) (hi : i < l.length) (h : l[i] = b :: m) : entry_Least.l0 (k + 1) at1 true l (l.length : Int) (i : Int) e.f0 e.f1 =
 if ltE b e = true then entry_Least.l0 k (i : Int) true l (l.length : Int) ((i + 1 : Nat) : Int) b.f0 b.f1 else entry_Least.l0 k at1 true l (l.length : Int) ((i + 1 : Nat) : Int) e.f0 e.f1 := by
 have hz : (i : Int) < (l.length : Int) := by omega
 have h0 : (0 : Int) ≤ (i : Int) := by omega
 have hp : ((b :: m).length : Int) > 0 := by simp
 have hp' : 0 < ((b :: m).length : Int) := hp
 have hrd : rd_T33 (b :: m) 0 = b := rfl
 simp only [entry_Least.l0, if_pos hz, if_pos h0, rdL_nat l i hi, h, if_pos hp, if_pos hp', hrd, wrap_nat (show i ≤ 4611686018427387904 by omega), if_true, less_told k hk, Option.bind_some]
theorem least_end {k : Nat} {l : List (List E)} {i : Nat} {at1 e0 e1 : Int} {ok : Bool} (hi : i = l.length) : entry_Least.l0 (k + 1) at1 ok l (l.length : Int) (i : Int) e0 e1 = some (e0, e1, at1, ok) := by
 subst hi
 simp only [entry_Least.l0]
 rw [if_neg (by omega)]
theorem least_two (k : Nat) (hk : 9 ≤ k) (a b : List E) : entry_Least.f k [a, b] = some (least2 a b 0 1) := by
 obtain ⟨k, rfl⟩ : ∃ m, k = m + 9 := ⟨k - 9, by omega⟩
 unfold entry_Least.f
 have c : ((0 : Nat) : Int) = 0 := rfl
 have c1 : ((0 + 1 : Nat) : Int) = 1 := rfl
 cases a with
 | nil =>
  cases b with
  | nil => exact (least_nil (i := 0) (by simp) (by simp) rfl).trans ((least_nil (i := 1) (by simp) (by simp) rfl).trans (least_end (i := 2) rfl))
  | cons y b => exact (least_nil (i := 0) (by simp) (by simp) rfl).trans ((least_first (i := 1) (by simp) (by simp) rfl).trans (least_end (i := 2) rfl))
 | cons x a =>
  cases b with
  | nil => exact (least_first (i := 0) (by simp) (by simp) rfl).trans ((least_nil (i := 1) (by simp) (by simp) rfl).trans (least_end (i := 2) rfl))
  | cons y b =>
   refine (least_first (i := 0) (by simp) (by simp) rfl).trans ((least_next (i := 1) (by omega) (by simp) (by simp) rfl).trans ?_)
   simp only [least2]
   cases ltE y x with
   | true => exact least_end (k := k + 6) (l := [x :: a, y :: b]) (i := 2) rfl
   | false => exact least_end (k := k + 6) (l := [x :: a, y :: b]) (i := 2) rfl
theorem first_of {l : List E} {x : E} (hx : x ∈ l) (h : ∀ y ∈ l, leE x y = true) : ∃ t, sortE l = x :: t := by
 cases hs : sortE l with
 | nil => have := (sortE_mem (l := l)).2 hx; rw [hs] at this; simp at this
 | cons z t =>
  have hz : z ∈ l := sortE_mem.1 (by rw [hs]; simp)
  have hxz : x ∈ sortE l := sortE_mem.2 hx
  have hsort := sortE_sorted l
  rw [hs] at hxz hsort
  have h1 : leE z x = true := by
   rcases List.mem_cons.1 hxz with h1 | h1
   · subst h1; exact leE_refl _
   · exact (sorted_cons.1 hsort).1 x h1
  obtain rfl := leE_antisymm (h z hz) h1
  exact ⟨t, rfl⟩
theorem head_least {l t : List E} {x : E} (h : sortE l = x :: t) : x ∈ l ∧ ∀ y ∈ l, leE x y = true := by
 refine ⟨sortE_mem.1 (by rw [h]; simp), fun y hy => ?_⟩
 have hy' : y ∈ sortE l := sortE_mem.2 hy
 have hs := sortE_sorted l
 rw [h] at hy' hs
 rcases List.mem_cons.1 hy' with h1 | h1
 · subst h1; exact leE_refl _
 · exact (sorted_cons.1 hs).1 y h1
theorem sort_empty {l : List E} (h : sortE l = []) : l = [] := List.length_eq_zero_iff.1 (by rw [← sortE_length, h]; rfl)
theorem ranks_at (l : List E) (K : Nat) (hl : l.length ≤ 80) (hn : l ≠ []) (hK : K ≤ l.length) :
 ∃ p x t, entry_Least.f 999 [sortE (l.take K), sortE (l.drop K)] = some (x.f0, x.f1, p, true) ∧ sortE l = x :: t := by
 have hp := least_two 999 (by omega) (sortE (l.take K)) (sortE (l.drop K))
 have hsplit := List.take_append_drop K l
 have hin : ∀ y ∈ l, y ∈ l.take K ∨ y ∈ l.drop K := fun y hy => by rw [← hsplit] at hy; exact List.mem_append.1 hy
 rw [hp]
 cases ha : sortE (l.take K) with
 | nil =>
  have ha0 := sort_empty ha
  cases hb : sortE (l.drop K) with
  | nil =>
   have hb0 := sort_empty hb
   rw [ha0, hb0] at hsplit
   exact absurd hsplit.symm hn
  | cons y b =>
   obtain ⟨h1, h2⟩ := head_least hb
   obtain ⟨t, ht⟩ := first_of (l := l) (x := y) (List.mem_of_mem_drop h1) (fun z hz => by
    rcases hin z hz with h | h
    · rw [ha0] at h; simp at h
    · exact h2 z h)
   exact ⟨_, y, t, rfl, ht⟩
 | cons x a =>
  obtain ⟨g1, g2⟩ := head_least ha
  cases hb : sortE (l.drop K) with
  | nil =>
   have hb0 := sort_empty hb
   obtain ⟨t, ht⟩ := first_of (l := l) (x := x) (List.mem_of_mem_take g1) (fun z hz => by
    rcases hin z hz with h | h
    · exact g2 z h
    · rw [hb0] at h; simp at h)
   exact ⟨_, x, t, rfl, ht⟩
  | cons y b =>
   obtain ⟨h1, h2⟩ := head_least hb
   cases hc : ltE y x with
   | true =>
    obtain ⟨t, ht⟩ := first_of (l := l) (x := y) (List.mem_of_mem_drop h1) (fun z hz => by
     rcases hin z hz with h | h
     · exact leE_of_ltE (ltE_of_lt_le hc (g2 z h))
     · exact h2 z h)
    exact ⟨1, y, t, by simp [least2, hc], ht⟩
   | false =>
    have hxy : leE x y = true := by simp [leE, hc]
    obtain ⟨t, ht⟩ := first_of (l := l) (x := x) (List.mem_of_mem_take g1) (fun z hz => by
     rcases hin z hz with h | h
     · exact g2 z h
     · exact leE_trans _ _ _ hxy (h2 z h))
    exact ⟨0, x, t, by simp [least2, hc], ht⟩
theorem EntryRanks_core (l : List E) (cut : Int) (h0 : -9223372036854775808 ≤ cut) (h1 : cut ≤ 9223372036854775807) (hl : l.length ≤ 80) (hn : l ≠ []) : vergerlaw5_EntryRanks.j0 1000 l cut false = some true := by
 have hlen : 0 < l.length := List.length_pos_iff.2 hn
 have hsa : sortE l = sortE (sortE (l.take ((Int.tmod (Int.tmod cut ((l.length + 1 : Nat) : Int) + (l.length : Int) + 1) ((l.length + 1 : Nat) : Int)).toNat)) ++ sortE (l.drop ((Int.tmod (Int.tmod cut ((l.length + 1 : Nat) : Int) + (l.length : Int) + 1) ((l.length + 1 : Nat) : Int)).toNat))) := by
  refine (sortE_of_perm (((sortE_perm _).append (sortE_perm _)).trans ?_)).symm
  rw [List.take_append_drop]
 have t0 := Int.tmod_lt_of_pos cut (b := ((l.length + 1 : Nat) : Int)) (by omega)
 have t1 := Int.lt_tmod_of_pos cut (b := ((l.length + 1 : Nat) : Int)) (by omega)
 have t2 := Int.tmod_lt_of_pos (Int.tmod cut ((l.length + 1 : Nat) : Int) + (l.length : Int) + 1) (b := ((l.length + 1 : Nat) : Int)) (by omega)
 have t3 := Int.tmod_nonneg (a := Int.tmod cut ((l.length + 1 : Nat) : Int) + (l.length : Int) + 1) ((l.length + 1 : Nat) : Int) (by omega)
 have w0 : wrap64 ((l.length : Int) + 1) = ((l.length + 1 : Nat) : Int) := wrap_nat (by omega)
 have w1 : wrap64 (Int.tmod cut ((l.length + 1 : Nat) : Int) + (l.length : Int)) = Int.tmod cut ((l.length + 1 : Nat) : Int) + (l.length : Int) := wrap_id (by omega) (by omega)
 have w2 : wrap64 (Int.tmod cut ((l.length + 1 : Nat) : Int) + (l.length : Int) + 1) = Int.tmod cut ((l.length + 1 : Nat) : Int) + (l.length : Int) + 1 := wrap_id (by omega) (by omega)
 simp only [vergerlaw5_EntryRanks.j0]
 rw [if_neg (by simp), sort_some (by omega)]
 simp only [Option.bind_some, w0]
 simp only [w1]
 simp only [w2]
 clear w0 w1 w2
 generalize hk : Int.tmod (Int.tmod cut ((l.length + 1 : Nat) : Int) + (l.length : Int) + 1) ((l.length + 1 : Nat) : Int) = K at *
 rw [if_neg (by omega), if_pos (by omega), if_pos (by omega), sort_some (by rw [List.length_take]; omega)]
 simp only [Option.bind_some]
 rw [sort_some (by rw [List.length_drop]; omega)]
 simp only [Option.bind_some]
 obtain ⟨p, x, t, hp, hs⟩ := ranks_at l K.toNat hl hn (by omega)
 have hsl : (sortE l).length = l.length := sortE_length l
 rw [hp]
 simp only [Option.bind_some, if_true]
 rw [if_pos (by omega), bne_same x _ (by rw [hs]; rfl)]
 simp only [Bool.false_eq_true, if_false]
 rw [merge_told 999 _ _ (sortE_sorted _) (sortE_sorted _) (by simp only [sortE_length, List.length_take, List.length_drop]; omega) (by simp only [sortE_length, List.length_take, List.length_drop]; omega)]
 simp only [Option.bind_some]
 rw [← hsa, same_told 999 _ (by omega) (by omega)]
 simp only [Option.bind_some, Bool.not_true, vergerlaw5_EntryRanks.j1]
 simp only [Bool.false_eq_true, if_false]
 exact ranks_loop (sortE l) (sortE_sorted l) (by omega) (sortE l).length _ 0 (by omega) (by omega) (by omega)
theorem EntryRanks_pure (l : List E) (cut : Int) {P Q : Prop} (_ : P) (_ : Q) (hc : (Lit.int .i64 cut).wf = true) : ∃ k, vergerlaw5_EntryRanks.f k l cut = some true := by
 refine ⟨1000, ?_⟩
 have aw : vergerlaw5_EntryRanks.j0 1000 l cut true = some true := by
  simp only [vergerlaw5_EntryRanks.j0, if_true]
  rw [awake5 999 (by omega)]
  rfl
 unfold vergerlaw5_EntryRanks.f
 by_cases h80 : (l.length : Int) > 80
 · rw [if_pos h80, aw]
 · rw [if_neg h80]
   by_cases hn : l = []
   · subst hn; exact aw
   · have : ((l.length : Int) == 0) = false := by
      have := List.length_pos_iff.2 hn
      simp only [beq_eq_false_iff_ne]
      omega
     rw [this]
     have hr : -9223372036854775808 ≤ cut ∧ cut ≤ 9223372036854775807 := by
      have h := hc
      simp [Lit.wf, IntKind.min, IntKind.max, IntKind.signed, IntKind.bits] at h
      omega
     exact EntryRanks_core l cut hr.1 hr.2 (by omega) hn
end Go.Proofs.Ythcnpkkpjfigeaa.V
