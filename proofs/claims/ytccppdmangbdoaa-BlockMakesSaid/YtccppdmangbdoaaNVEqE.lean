-- a text of this work, without what this claim doesn't use (wip/shake.py)
import Derived.Test.YtccppdmangbdoaaNVL6
import Derived.Test.YtccppdmangbdoaaNVPblockb
import Derived.Test.YtccppdmangbdoaaNVCall
import Derived.IntWalk
import Derived.Test.YtccppdmangbdoaaNVE31
import Derived.Test.YtccppdmangbdoaaNVPawakeLb
import Derived.Test.YtccppdmangbdoaaNVPblock
import Derived.Test.YtccppdmangbdoaaNVPvergerref5
import Derived.Test.YtccppdmangbdoaaNVPcmp
import Derived.Test.YtccppdmangbdoaaNVP5T
section
set_option linter.unusedVariables false
set_option linter.unusedSimpArgs false
namespace Go.Proofs.Ytccppdmangbdoaa.V
open Go.RowKit Go.Proofs.YtccppdmangbdoaaW.PrintWords Go.Proofs.YtccppdmangbdoaaW.PrintLast Go.Proofs.YtccppdmangbdoaaW.PrintMore
abbrev Bk := S26
theorem Bk.ext' {a b : Bk} (h0 : a.f0 = b.f0) (h1 : a.f1 = b.f1) : a = b := by cases a; cases b; simp_all
def mkB (l : List E) : Bk := ⟨((lev (l.length : Int) : Nat) : Int), sortE l⟩
def joinB (a b : Bk) : Bk := mkB (a.f1 ++ b.f1)
theorem mkB_perm {l m : List E} (h : l.Perm m) : mkB l = mkB m := by
 unfold mkB; rw [h.length_eq, sortE_of_perm h]
theorem joinB_comm (a b : Bk) : joinB a b = joinB b a := mkB_perm List.perm_append_comm
structure Sound (b : Bk) : Prop where
  lv : b.f0 = ((lev (b.f1.length : Int) : Nat) : Int)
  up : SortedE b.f1
  ne : b.f1 ≠ []
theorem mkB_sound {l : List E} (h : l ≠ []) : Sound (mkB l) :=
 ⟨by show _ = ((lev ((sortE l).length : Int) : Nat) : Int); rw [sortE_length]; rfl, sortE_sorted l, by
  intro e
  have := sortE_length l
  rw [show sortE l = [] from e] at this
  exact h (List.length_eq_zero_iff.1 this.symm)⟩
theorem joinB_sound {a b : Bk} (ha : Sound a) : Sound (joinB a b) := mkB_sound (by simp [ha.ne])
theorem Sound.pos {b : Bk} (h : Sound b) : 1 ≤ b.f1.length := by
 have := h.ne
 cases hb : b.f1 with
 | nil => exact absurd hb this
 | cons _ _ => simp
theorem joinB_level {a b : Bk} (ha : Sound a) (hb : Sound b) (he : a.f0 = b.f0) (hl : a.f1.length + b.f1.length < 1000000000) : (joinB a b).f0 = a.f0 + 1 := by
 have oa := lev_ok (n := (a.f1.length : Int)) (by omega)
 have ob := lev_ok (n := (b.f1.length : Int)) (by omega)
 have e1 := ha.lv
 have e2 := hb.lv
 obtain ⟨L, hL⟩ : ∃ L : Nat, lev (a.f1.length : Int) = L := ⟨_, rfl⟩
 have hL2 : lev (b.f1.length : Int) = L := by omega
 rw [hL] at oa e1
 rw [hL2] at ob
 have pa := ha.pos
 have pb := hb.pos
 have key : LevOk (((a.f1 ++ b.f1).length : Nat) : Int) (L + 1) := by
  rw [List.length_append]
  obtain ⟨u1, l1⟩ := oa
  obtain ⟨u2, l2⟩ := ob
  have h2 : (2 : Int) ^ (L + 1) = 2 ^ L * 2 := Int.pow_succ 2 L
  refine ⟨by omega, fun _ => ?_⟩
  rw [Nat.add_sub_cancel]
  by_cases h0 : L = 0
  · subst h0; simp; omega
  · have h3 : (2 : Int) ^ L = 2 ^ (L - 1) * 2 := by rw [← Int.pow_succ]; congr 1; omega
    have := l1 (by omega)
    have := l2 (by omega)
    omega
 have h4 := lev_unique (lev_ok (n := (((a.f1 ++ b.f1).length : Nat) : Int)) (by rw [List.length_append]; omega)) key
 show ((lev (((a.f1 ++ b.f1).length : Nat) : Int) : Nat) : Int) = a.f0 + 1
 rw [h4, e1]
 rfl
def Desc (bs : List Bk) : Prop := bs.Pairwise fun a b => b.f0 < a.f0
structure Good (bs : List Bk) : Prop where
  snd : ∀ b ∈ bs, Sound b
  desc : Desc bs
theorem Good.sub {bs cs : List Bk} (h : Good bs) (hs : cs.Sublist bs) : Good cs := ⟨fun b hb => h.snd b (hs.subset hb), h.desc.sublist hs⟩
def insR (x : Bk) : List Bk → List Bk
  | [] => [x]
  | b :: r => if b.f0 < x.f0 then b :: insR x r else if b.f0 = x.f0 then insR (joinB b x) r else x :: b :: r
def ins (x : Bk) (bs : List Bk) : List Bk := (insR x bs.reverse).reverse
theorem insR_skip (x : Bk) : ∀ (c r : List Bk), (∀ b ∈ c, b.f0 < x.f0) → insR x (c ++ r) = c ++ insR x r := by
 intro c
 induction c with
 | nil => intro r _; rfl
 | cons b c ih =>
  intro r h
  show (if b.f0 < x.f0 then b :: insR x (c ++ r) else _) = _
  rw [if_pos (h b (by simp)), ih r (fun q hq => h q (by simp [hq]))]
  rfl
theorem ins_split {x : Bk} {A C : List Bk} (hc : ∀ b ∈ C, b.f0 < x.f0) : ins x (A ++ C) = ins x A ++ C := by
 unfold ins
 rw [List.reverse_append, insR_skip x _ _ (by intro b hb; exact hc b (List.mem_reverse.1 hb)), List.reverse_append, List.reverse_reverse]
theorem ins_eq {x a : Bk} {A : List Bk} (h : a.f0 = x.f0) : ins x (A ++ [a]) = ins (joinB a x) A := by
 unfold ins
 rw [List.reverse_append]
 show (insR x (a :: A.reverse)).reverse = _
 rw [insR, if_neg (by omega), if_pos h]
theorem ins_gt {x a : Bk} {A : List Bk} (h : x.f0 < a.f0) : ins x (A ++ [a]) = A ++ [a] ++ [x] := by
 unfold ins
 rw [List.reverse_append]
 show (insR x (a :: A.reverse)).reverse = _
 rw [insR, if_neg (by omega), if_neg (by omega)]
 simp
structure Cur (x : Bk) (A C : List Bk) : Prop where
  snd : Sound x
  good : Good (A ++ C)
  up : ∀ a ∈ A, x.f0 ≤ a.f0
  dn : ∀ c ∈ C, c.f0 ≤ x.f0
def Mrg (cur fin : List Bk) : Prop := (Good cur ∧ fin = cur) ∨ ∃ x A C, cur = A ++ x :: C ∧ Cur x A C ∧ fin = ins x (A ++ C)
theorem desc_app {A C : List Bk} : Desc (A ++ C) ↔ Desc A ∧ Desc C ∧ ∀ a ∈ A, ∀ c ∈ C, c.f0 < a.f0 := List.pairwise_append
theorem Mrg.snd {cur fin : List Bk} (h : Mrg cur fin) : ∀ b ∈ cur, Sound b := by
 rcases h with ⟨h, _⟩ | ⟨x, A, C, rfl, h, _⟩
 · exact h.snd
 · intro b hb
   rcases List.mem_append.1 hb with hb | hb
   · exact h.good.snd b (by simp [hb])
   · rcases List.mem_cons.1 hb with rfl | hb
     · exact h.snd
     · exact h.good.snd b (by simp [hb])
theorem Mrg.done {cur fin : List Bk} (h : Mrg cur fin) (hn : ∀ i a b, cur[i]? = some a → cur[i + 1]? = some b → a.f0 ≠ b.f0) : fin = cur ∧ Good cur := by
 rcases h with ⟨h, rfl⟩ | ⟨x, A, C, rfl, h, rfl⟩
 · exact ⟨rfl, h⟩
 · have hC : ∀ c ∈ C, c.f0 < x.f0 := by
    intro c hc
    cases C with
    | nil => simp at hc
    | cons c0 C =>
     have h0 := hn A.length x c0 (by simp) (by simp)
     have h1 := h.dn c0 (by simp)
     rcases List.mem_cons.1 hc with rfl | hc
     · omega
     · obtain ⟨_, d2, _⟩ := desc_app.1 h.good.desc
       have := (List.pairwise_cons.1 d2).1 c hc
       omega
   have hA : ∀ a ∈ A, x.f0 < a.f0 := by
    intro a ha
    rcases List.eq_nil_or_concat A with rfl | ⟨A', a', rfl⟩
    · simp at ha
    · rw [List.concat_eq_append] at *
      have h0 := hn A'.length a' x (by simp) (by simp)
      have h1 := h.up a' (by simp)
      rcases List.mem_append.1 ha with ha | ha
      · obtain ⟨d1, _, _⟩ := desc_app.1 h.good.desc
        obtain ⟨_, _, d3⟩ := desc_app.1 d1
        have := d3 a ha a' (by simp)
        omega
      · obtain rfl : a = a' := by simpa using ha
        omega
   refine ⟨?_, Mrg.snd (fin := ins x (A ++ C)) (.inr ⟨x, A, C, rfl, h, rfl⟩), ?_⟩
   · rw [ins_split hC]
     rcases List.eq_nil_or_concat A with rfl | ⟨A', a', rfl⟩
     · rfl
     · rw [List.concat_eq_append] at *
       rw [ins_gt (hA a' (by simp))]
       simp
   · obtain ⟨d1, d2, d3⟩ := desc_app.1 h.good.desc
     refine desc_app.2 ⟨d1, List.pairwise_cons.2 ⟨hC, d2⟩, ?_⟩
     intro a ha c hc
     rcases List.mem_cons.1 hc with rfl | hc
     · exact hA a ha
     · exact d3 a ha c hc
theorem cur_joined {x a : Bk} {A C : List Bk} (hx : Sound x) (ha : Sound a) (he : a.f0 = x.f0) (hg : Good (A ++ C)) (hA : ∀ q ∈ A, x.f0 < q.f0) (hC : ∀ q ∈ C, q.f0 < x.f0) (hl : a.f1.length + x.f1.length < 1000000000) :
 Cur (joinB a x) A C ∧ ins (joinB a x) (A ++ C) = ins (joinB a x) A ++ C := by
 have hj := joinB_level ha hx he hl
 exact ⟨⟨joinB_sound ha, hg, fun q hq => by have := hA q hq; omega, fun q hq => by have := hC q hq; omega⟩, ins_split (fun q hq => by have := hC q hq; omega)⟩
theorem good_out {A C : List Bk} {a : Bk} (h : Good (A ++ a :: C)) : Good (A ++ C) := h.sub (List.Sublist.append (List.Sublist.refl _) (List.sublist_cons_self _ _))
theorem Mrg.step {cur fin : List Bk} (h : Mrg cur fin) {i : Nat} {a b : Bk} (ha : cur[i]? = some a) (hb : cur[i + 1]? = some b) (he : a.f0 = b.f0) (hl : a.f1.length + b.f1.length < 1000000000) :
 Mrg (cur.take i ++ joinB a b :: cur.drop (i + 2)) fin := by
 rcases h with ⟨h, rfl⟩ | ⟨x, A, C, rfl, h, rfl⟩
 · obtain ⟨hi, rfl⟩ := List.getElem?_eq_some_iff.1 ha
   obtain ⟨hi', rfl⟩ := List.getElem?_eq_some_iff.1 hb
   have := List.pairwise_iff_getElem.1 h.desc i (i + 1) hi hi' (by omega)
   omega
 · obtain ⟨d1, d2, d3⟩ := desc_app.1 h.good.desc
   by_cases h1 : i + 1 < A.length
   · rw [List.getElem?_append_left (by omega)] at ha hb
     obtain ⟨hi, rfl⟩ := List.getElem?_eq_some_iff.1 ha
     obtain ⟨hi', rfl⟩ := List.getElem?_eq_some_iff.1 hb
     have := List.pairwise_iff_getElem.1 d1 i (i + 1) hi hi' (by omega)
     omega
   · by_cases h2 : i + 1 = A.length
     · 
       rcases List.eq_nil_or_concat A with rfl | ⟨A', a', rfl⟩
       · simp at h2
       · rw [List.concat_eq_append] at *
         have hi : i = A'.length := by simpa using h2
         subst hi
         obtain rfl : a' = a := by simpa using ha
         obtain rfl : x = b := by simpa using hb
         obtain ⟨e1, _, e3⟩ := desc_app.1 d1
         obtain ⟨k1, k2⟩ := cur_joined (x := x) (a := a') (A := A') (C := C) h.snd (h.good.snd a' (by simp)) he (by
          have := h.good
          rw [List.append_assoc] at this
          exact good_out this) (fun q hq => by have := e3 q hq a' (by simp); omega) (fun q hq => by have := d3 a' (by simp) q hq; omega) hl
         refine .inr ⟨joinB a' x, A', C, by simp, k1, ?_⟩
         rw [k2, ins_split (fun q hq => by have := d3 a' (by simp) q hq; omega), ins_eq he]
     · 
       obtain ⟨j, rfl⟩ : ∃ j, i = A.length + j := ⟨i - A.length, by omega⟩
       rw [List.getElem?_append_right (by omega), show A.length + j - A.length = j by omega] at ha
       rw [List.getElem?_append_right (by omega), show A.length + j + 1 - A.length = j + 1 by omega] at hb
       cases j with
       | zero =>
        obtain rfl : x = a := by simpa using ha
        cases C with
        | nil => simp at hb
        | cons c C =>
         obtain rfl : c = b := by simpa using hb
         obtain ⟨e1, e2⟩ := List.pairwise_cons.1 d2
         have hA : ∀ q ∈ A, x.f0 < q.f0 := fun q hq => by have := d3 q hq c (by simp); omega
         have hC : ∀ q ∈ C, q.f0 < x.f0 := fun q hq => by have := e1 q hq; omega
         obtain ⟨k1, k2⟩ := cur_joined (x := x) (a := c) (A := A) (C := C) h.snd (h.good.snd c (by simp)) he.symm (good_out h.good) hA hC (by omega)
         refine .inr ⟨joinB c x, A, C, by rw [joinB_comm x c]; simp, k1, ?_⟩
         rw [k2, show A ++ c :: C = (A ++ [c]) ++ C by simp, ins_split hC, ins_eq he.symm]
       | succ j =>
        rw [List.getElem?_cons_succ] at ha hb
        obtain ⟨hi, rfl⟩ := List.getElem?_eq_some_iff.1 ha
        obtain ⟨hi', rfl⟩ := List.getElem?_eq_some_iff.1 hb
        have := List.pairwise_iff_getElem.1 d2 j (j + 1) hi hi' (by omega)
        omega
theorem allB_append (a b : List Bk) : allB (a ++ b) = allB a ++ allB b := by simp [allB]
theorem allB_cons (a : Bk) (b : List Bk) : allB (a :: b) = a.f1 ++ allB b := by simp [allB]
theorem joinB_all (a b : Bk) : (joinB a b).f1.Perm (a.f1 ++ b.f1) := sortE_perm _
theorem insR_all : ∀ (r : List Bk) (x : Bk), (allB (insR x r)).Perm (x.f1 ++ allB r) := by
 intro r
 induction r with
 | nil => intro x; simp [insR, allB]
 | cons b r ih =>
  intro x
  rw [insR]
  split
  · rw [allB_cons, allB_cons]
    refine ((ih x).append_left _).trans ?_
    rw [← List.append_assoc, ← List.append_assoc]
    exact List.perm_append_comm.append_right _
  · split
    · refine (ih _).trans ?_
      rw [allB_cons, ← List.append_assoc]
      exact ((joinB_all b x).trans List.perm_append_comm).append_right _
    · rw [allB_cons]
theorem allB_reverse (r : List Bk) : (allB r.reverse).Perm (allB r) := (List.reverse_perm r).flatMap_right _
theorem ins_all (x : Bk) (bs : List Bk) : (allB (ins x bs)).Perm (x.f1 ++ allB bs) :=
 (allB_reverse _).trans ((insR_all _ _).trans ((allB_reverse bs).append_left _))
theorem Mrg.all {cur fin : List Bk} (h : Mrg cur fin) : (allB fin).Perm (allB cur) := by
 rcases h with ⟨h, rfl⟩ | ⟨x, A, C, rfl, h, rfl⟩
 · exact List.Perm.refl _
 · refine (ins_all _ _).trans ?_
   rw [allB_append, allB_append, allB_cons, ← List.append_assoc, ← List.append_assoc]
   exact List.perm_append_comm.append_right _
end Go.Proofs.Ytccppdmangbdoaa.V
end
section
set_option linter.unusedVariables false
set_option linter.unusedSimpArgs false
namespace Go.Proofs.Ytccppdmangbdoaa.V
open Go.RowKit Go.Proofs.YtccppdmangbdoaaW.PrintWords Go.Proofs.YtccppdmangbdoaaW.PrintLast Go.Proofs.YtccppdmangbdoaaW.PrintMore
def BxI (W : World) (g : Nat) (id : Int) : Prop := W.heap[g]? = some (.cells #[.int .i64 id] 3 (0, 0))
theorem BxI.below {W W1 : World} {g : Nat} {id : Int} (h : BxI W g id) (hb : Below W.heap.size W W1) : BxI W1 g id := blk_below h hb
theorem BxI.c0 {W : World} {g : Nat} {id : Int} (h : BxI W g id) : W.cell? ⟨g, 0, none⟩ = some (.int .i64 id) := (blk_cell h 0).trans rfl
def BxF (W : World) (f : Nat) (fid : FuncId) (g : Nat) : Prop := W.heap[f]? = some (.cells #[.func (.func fid) #[] #[.pointer (some ⟨g, 0, none⟩)]] 46 (0, 0))
theorem BxF.below {W W1 : World} {f g : Nat} {fid : FuncId} (h : BxF W f fid g) (hb : Below W.heap.size W W1) : BxF W1 f fid g := blk_below h hb
theorem BxF.c0 {W : World} {f g : Nat} {fid : FuncId} (h : BxF W f fid g) : W.cell? ⟨f, 0, none⟩ = some (.func (.func fid) #[] #[.pointer (some ⟨g, 0, none⟩)]) := (blk_cell h 0).trans rfl
structure Cap (W : World) (f8 f9 g4 g5 : Nat) (a b : Int) : Prop where
  p8 : BxF W f8 23 g4
  p9 : BxF W f9 24 g5
  i4 : BxI W g4 a
  i5 : BxI W g5 b
theorem Cap.below {W W1 : World} {f8 f9 g4 g5 : Nat} {a b : Int} (h : Cap W f8 f9 g4 g5 a b) (hb : Below W.heap.size W W1) : Cap W1 f8 f9 g4 g5 a b := ⟨h.p8.below hb, h.p9.below hb, h.i4.below hb, h.i5.below hb⟩
end Go.Proofs.Ytccppdmangbdoaa.V
end
section
set_option linter.unusedVariables false
set_option linter.unusedSimpArgs false
namespace Go.Proofs.Ytccppdmangbdoaa.V
open Go.RowKit Go.Proofs.YtccppdmangbdoaaW.PrintWords Go.Proofs.YtccppdmangbdoaaW.PrintLast Go.Proofs.YtccppdmangbdoaaW.PrintMore
theorem min_told (L : Int) (l : List E) : block_Block_Min.f L l = some (match l with | [] => (0, 0, false) | a :: _ => (a.f0, a.f1, true)) := by
 unfold block_Block_Min.f
 cases l with
 | nil => rfl
 | cons a t =>
  have h1 : ¬ ((a :: t).length : Int) = 0 := by simp; omega
  have h2 : 0 < ((a :: t).length : Int) := by simp
  rw [if_neg h1, if_pos h2]
  rfl
theorem awake6 (k : Nat) (hk : 70 ≤ k) : vergerlaw6_awake.f k = some true := by
 have hs : sortE [(⟨3, 1⟩ : E), ⟨1, 2⟩, ⟨2, 3⟩] = [⟨1, 2⟩, ⟨2, 3⟩, ⟨3, 1⟩] := sortE_eq (by unfold SortedE; simp [leE_iff]) (by
  exact ((List.Perm.swap (⟨2, 3⟩ : E) ⟨3, 1⟩ []).cons ⟨1, 2⟩).symm.trans (List.Perm.swap (⟨3, 1⟩ : E) ⟨1, 2⟩ [⟨2, 3⟩] |>.trans (List.Perm.refl _)))
 have ho := of_told k [(⟨3, 1⟩ : E), ⟨1, 2⟩, ⟨2, 3⟩] (by decide) (by omega)
 have hok := blockok_of k [(⟨3, 1⟩ : E), ⟨1, 2⟩, ⟨2, 3⟩] (by decide) (by simp; omega)
 rw [hs] at ho hok
 have l3 : ((lev (([(⟨3, 1⟩ : E), ⟨1, 2⟩, ⟨2, 3⟩].length : Nat) : Int) : Nat) : Int) = 2 := by decide
 rw [l3] at ho hok
 have l5 : ((lev 5 : Nat) : Int) = 3 := by decide
 unfold vergerlaw6_awake.f
 rw [ho]
 simp only [Option.bind_some, min_told]
 rw [level_told k 5 (by omega), l5]
 simp only [Option.bind_some]
 rw [if_pos (by first | rfl | trivial), if_pos (by first | rfl | trivial), hok]
 rfl
theorem few_told (l : List E) : vergerlaw6_Few.f l = some (decide ((l.length : Int) ≤ 120)) := rfl
end Go.Proofs.Ytccppdmangbdoaa.V
end
section
set_option linter.unusedVariables false
set_option linter.unusedSimpArgs false
namespace Go.Proofs.Ytccppdmangbdoaa.V
open Go.RowKit Go.Proofs.YtccppdmangbdoaaW.PrintWords Go.Proofs.YtccppdmangbdoaaW.PrintLast Go.Proofs.YtccppdmangbdoaaW.PrintMore
theorem reflevel_loop (n : Int) : ∀ (d k i : Nat), i + d = 62 → d < k → vergerref5_Level.l0 k n (i : Int) = some ((levGo d i n : Nat) : Int) := by
 intro d
 induction d with
 | zero =>
  intro k i hd hk
  obtain ⟨k, rfl, _⟩ := succ_of hk
  simp only [vergerref5_Level.l0]
  rw [if_neg (by omega)]
  rfl
 | succ d ih =>
  intro k i hd hk
  obtain ⟨k, rfl, hk'⟩ := succ_of hk
  simp only [vergerref5_Level.l0]
  rw [if_pos (by omega), if_pos (by omega), shl_one (by omega), wrap_nat (by omega), ih k (i + 1) (by omega) (by omega)]
  simp only [levGo]
  by_cases hc : (2 : Int) ^ i < n
  · rw [if_pos hc, if_pos hc]
  · rw [if_neg hc, if_neg hc]
theorem reflevel_told (k : Nat) (n : Int) (hk : 62 < k) : vergerref5_Level.f k n = some ((lev n : Nat) : Int) := reflevel_loop n 62 k 0 (by omega) hk
theorem refof_told (k : Nat) (l : List E) (hl : l.length < 1000000000) (hk : 2 * l.length + 63 ≤ k) : vergerref5_Of.f k l = some (((lev (l.length : Int) : Nat) : Int), sortE l) := by
 unfold vergerref5_Of.f
 rw [reflevel_told k _ (by omega)]
 simp only [Option.bind_some]
 rw [refsort_told k l hl (by omega)]
 rfl
end Go.Proofs.Ytccppdmangbdoaa.V
end
section
set_option linter.unusedVariables false
set_option linter.unusedSimpArgs false
namespace Go.Proofs.Ytccppdmangbdoaa.V
open Go.RowKit Go.Proofs.YtccppdmangbdoaaW.PrintWords Go.Proofs.YtccppdmangbdoaaW.PrintLast Go.Proofs.YtccppdmangbdoaaW.PrintMore
theorem same6_tells (k : Nat) (L : Int) (l : List E) (hl : l.length < 1000000000) (hk : l.length < k) : vergerlaw6_Same.f k L l L l = some true := by
 unfold vergerlaw6_Same.f
 rw [if_pos (by first | rfl | trivial), same_told k l hl hk]
 rfl
theorem mkB_len (l : List E) : (mkB l).f1.length = l.length := sortE_length l
theorem refof_mk (k : Nat) (l : List E) (hl : l.length < 1000000000) (hk : 2 * l.length + 63 ≤ k) : vergerref5_Of.f k l = some ((mkB l).f0, (mkB l).f1) := refof_told k l hl hk
def BxL (W : World) (g7 : Nat) (G : Option Addr) (c : Nat) (g : List Int) : Prop := W.heap[g7]? = some (.cells #[.slice G g.length c] 56 (0, 0)) ∧ Kd.C (Kd.int .i64) W G g.length g ∧ g.length ≤ c
theorem BxL.below {W W1 : World} {g7 c : Nat} {G : Option Addr} {g : List Int} (h : BxL W g7 G c g) (hb : Below W.heap.size W W1) : BxL W1 g7 G c g := ⟨blk_below h.1 hb, Kd.C_below h.2.1 hb, h.2.2⟩
theorem BxL.c0 {W : World} {g7 c : Nat} {G : Option Addr} {g : List Int} (h : BxL W g7 G c g) : W.cell? ⟨g7, 0, none⟩ = some (.slice G g.length c) := (blk_cell h.1 0).trans rfl
end Go.Proofs.Ytccppdmangbdoaa.V
end
section
set_option linter.unusedVariables false
set_option linter.unusedSimpArgs false
namespace Go.Proofs.Ytccppdmangbdoaa.V
open Go.RowKit Go.Proofs.YtccppdmangbdoaaW.PrintWords Go.Proofs.YtccppdmangbdoaaW.PrintLast Go.Proofs.YtccppdmangbdoaaW.PrintMore
theorem refok_told (k : Nat) (L : Int) (l : List E) (hl : l.length < 1000000000) (hk : l.length + 64 ≤ k) : vergerref5_Ok.f k L l = some (decide (L = ((lev (l.length : Int) : Nat) : Int)) && okTo l (l.length - 1)) := by
 have h62 := lev_62 (l.length : Int)
 have hok := lev_ok (n := (l.length : Int)) (by omega)
 unfold vergerref5_Ok.f
 rw [refsorted_told k l hl (by omega)]
 simp only [Option.bind_some]
 by_cases h0 : L < 0
 · rw [if_pos h0, decide_eq_false (by omega), Bool.false_and]
 · rw [if_neg h0]
   by_cases h1 : L > 62
   · rw [if_pos h1, decide_eq_false (by omega), Bool.false_and]
   · rw [if_neg h1]
     obtain ⟨M, rfl⟩ : ∃ M : Nat, L = (M : Int) := ⟨L.toNat, by omega⟩
     have hM : M ≤ 62 := by omega
     have hp := pow2_pos M
     have hp2 := pow2_lt M hM
     by_cases hs : okTo l (l.length - 1) = true
     · rw [if_pos hs, if_pos (by omega), shl_one hM, hs, Bool.and_true]
       by_cases h2 : (l.length : Int) ≤ 2 ^ M
       · rw [if_pos h2]
         by_cases h3 : (M : Int) = 0
         · rw [if_pos h3]
           obtain rfl : M = 0 := by omega
           have : lev (l.length : Int) = 0 := lev_unique hok ⟨h2, by omega⟩
           rw [this]
           rfl
         · rw [if_neg h3]
           have he : wrap64 (Int.tdiv (2 ^ M) 2) = 2 ^ (M - 1) := by
            have h4 : (2 : Int) ^ M = 2 ^ (M - 1) * 2 := by rw [← Int.pow_succ]; congr 1; omega
            rw [h4, Int.mul_tdiv_cancel _ (by decide)]
            have h5 := pow2_pos (M - 1)
            exact wrap_id (by omega) (by omega)
           rw [he]
           congr 1
           apply Bool.eq_iff_iff.2
           simp only [decide_eq_true_eq]
           constructor
           · intro h
             have := lev_unique hok ⟨h2, fun _ => h⟩
             rw [this]
           · intro h
             have h6 : lev (l.length : Int) = M := by omega
             have := hok.2 (by omega)
             rw [h6] at this
             exact this
       · rw [if_neg h2]
         congr 1
         symm
         rw [decide_eq_false]
         intro h
         have h6 : lev (l.length : Int) = M := by omega
         have := hok.1
         rw [h6] at this
         exact h2 this
     · rw [if_neg hs]
       have : okTo l (l.length - 1) = false := by simpa using hs
       rw [this, Bool.and_false]
end Go.Proofs.Ytccppdmangbdoaa.V
end
section
set_option linter.unusedVariables false
set_option linter.unusedSimpArgs false
namespace Go.Proofs.Ytccppdmangbdoaa.V
open Go.RowKit Go.Proofs.YtccppdmangbdoaaW.PrintWords Go.Proofs.YtccppdmangbdoaaW.PrintLast Go.Proofs.YtccppdmangbdoaaW.PrintMore
theorem neqE_run (a b c d : Int) (w : World) : (binOp .neq 31 (.agg #[.int .u64 a, .int .i64 b]) (.agg #[.int .u64 c, .int .i64 d])).run Try.prog w = .ok (.bool (!(a == c && (b == d)))) w := by
 have h := eqA31 9998 w a c b d
 simp only [binOp]
 simp [Op.equal, Op.maxDepth, h]
theorem neqE_same (a b : Int) (w : World) : (binOp .neq 31 (.agg #[.int .u64 a, .int .i64 b]) (.agg #[.int .u64 a, .int .i64 b])).run Try.prog w = .ok (.bool false) w := by
 rw [neqE_run]; simp
end Go.Proofs.Ytccppdmangbdoaa.V
end
