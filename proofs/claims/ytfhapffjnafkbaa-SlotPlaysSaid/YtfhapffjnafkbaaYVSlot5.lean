-- a text of this work, without what this claim doesn't use (wip/shake.py)
import Derived.Test.YtfhapffjnafkbaaProg
import Derived.Below
import Derived.Deep.Draws
import Derived.Deep.AppendLies
import Derived.Maps.AppendAt
import Derived.OwnWalk
import Derived.Laws.BytesArg
import Derived.Laws.MakeOwn
import Derived.Laws.OwnMore
import Derived.Deep.OwnRows
import Derived.Tactics
import Derived.Lib.ConvBytes
import Derived.Laws.Slices
import Derived.WalkKit
import Derived.KernelRfl
import Derived.RowKit3
import Derived.Deep.LoopGhost
import Derived.Deep.QuietTactic
import Derived.BigQuiet
import Derived.WideLaws
import Derived.Deep.DeepCutAuto
import Derived.Deep.CutBlock
import Derived.Deep.RegionHeld3
import Derived.Laws.Rows
import Derived.Lib.AppendStr
import Derived.ArgAppend
import Derived.Laws.IdiomCopy
import Derived.OrdersHeld
import Derived.Laws.BitsLemmas
import Derived.RowKit
import Derived.Test.YtfhapffjnafkbaaYWMore
import Derived.Test.YtfhapffjnafkbaaYVCall
import Derived.Laws.CopyRow
import Derived.Laws.CopyOwn
import Derived.Laws.Externs
import Derived.Lib.Overlaps
import Derived.Lib.AppendZerosOnto
import Derived.Shelf.Spec.SlicesInsert
import Derived.StillTailTactics
import Derived.BigRegion
import Derived.WalkSpells
import Derived.Lib.SliceRun
section
namespace Go.Proofs.Ytfhapffjnafkbaa.V
open Go.RowKit Go.Proofs.YtfhapffjnafkbaaW.PrintWords Go.Proofs.YtfhapffjnafkbaaW.PrintLast Go.Proofs.YtfhapffjnafkbaaW.PrintMore
attribute [local go_sem] max2_int min2_int max_two min_two max_three min_three max_four min_four
set_option linter.unusedVariables false
set_option linter.unusedSimpArgs false
theorem info33 : (Try.prog.info? 33).map (fun i => (i.zero, i.size, i.bytes)) = some (some (.agg #[(.int .u64 0), (.int .i64 0)]), 2, 16) := by kernel_rfl
structure S33 where
  f0 : Int
  f1 : Int
def z33 : S33 := ⟨(0 : Int), (0 : Int)⟩
def k33 : Kd S33 := Kd.iso (Kd.pair (Kd.int .u64) (Kd.int .i64)) (fun x : S33 => (x.f0, x.f1))
theorem k33_open {w : World} {x : S33} {cs : List Value} (h : k33.K w x cs) : cs = [.int .u64 x.f0, .int .i64 x.f1] := by
 obtain ⟨_, _, rfl, rfl, rfl⟩ := h
 exact rfl
theorem k33_mkM (w : World) (base : Nat) (ok : Nat → Prop) (x : S33)  : k33.M w base ok x [.int .u64 x.f0, .int .i64 x.f1] := ⟨[.int .u64 x.f0], [.int .i64 x.f1], rfl, rfl, rfl⟩
def rd_T33 (xs : List S33) (i : Int) : S33 := xs.getD i.toNat z33
theorem at_T33 {w : World} {A : Option Addr} {n : Nat} {xs : List S33} (h : Kd.C k33 w A n xs) (i : Int) (h0 : 0 ≤ i) (h1 : i < n) : ∃ ad , A = some ad ∧ w.cell? (ad.add (i.toNat * 2)) = some (.int .u64 (rd_T33 xs i).f0) ∧ w.cell? ⟨(ad.add (i.toNat * 2)).block, (ad.add (i.toNat * 2)).off + 1, none⟩ = some (.int .i64 (rd_T33 xs i).f1) := by
 obtain ⟨ad, c, e, _, hK, hc0⟩ := Kd.C_get h z33 i h0 h1
 have hc : ∀ j u, c[j]? = some u → w.cell? (ad.add (i.toNat * 2 + j)) = some u := hc0
 obtain rfl := k33_open hK
 exact ⟨ad, e, hc 0 _ rfl, by rw [← add_field _ _ 1 (by omega)]; exact hc 1 _ rfl⟩
structure S57 where
  f0 : Int
  f1 : Int
  f2 : Int
  f3 : S33
def z57 : S57 := ⟨(0 : Int), (0 : Int), (0 : Int), z33⟩
def k57 : Kd S57 := Kd.iso (Kd.pair (Kd.int .i64) (Kd.pair (Kd.int .i64) (Kd.pair (Kd.int .u64) k33))) (fun x : S57 => (x.f0, x.f1, x.f2, x.f3))
theorem k57_open {w : World} {x : S57} {cs : List Value} (h : k57.K w x cs) : cs = [.int .i64 x.f0, .int .i64 x.f1, .int .u64 x.f2, .int .u64 x.f3.f0, .int .i64 x.f3.f1] := by
 obtain ⟨_, _, rfl, rfl, ⟨_, _, rfl, rfl, ⟨_, _, rfl, rfl, s3⟩⟩⟩ := h
 obtain rfl := k33_open s3
 exact rfl
def rd_T57 (xs : List S57) (i : Int) : S57 := xs.getD i.toNat z57
theorem at_T57 {w : World} {A : Option Addr} {n : Nat} {xs : List S57} (h : Kd.C k57 w A n xs) (i : Int) (h0 : 0 ≤ i) (h1 : i < n) : ∃ ad , A = some ad ∧ w.cell? (ad.add (i.toNat * 5)) = some (.int .i64 (rd_T57 xs i).f0) ∧ w.cell? ⟨(ad.add (i.toNat * 5)).block, (ad.add (i.toNat * 5)).off + 1, none⟩ = some (.int .i64 (rd_T57 xs i).f1) ∧ w.cell? ⟨(ad.add (i.toNat * 5)).block, (ad.add (i.toNat * 5)).off + 2, none⟩ = some (.int .u64 (rd_T57 xs i).f2) ∧ w.cell? ⟨(ad.add (i.toNat * 5)).block, (ad.add (i.toNat * 5)).off + 3, none⟩ = some (.int .u64 (rd_T57 xs i).f3.f0) ∧ w.cell? ⟨(ad.add (i.toNat * 5)).block, (ad.add (i.toNat * 5)).off + 4, none⟩ = some (.int .i64 (rd_T57 xs i).f3.f1) := by
 obtain ⟨ad, c, e, _, hK, hc0⟩ := Kd.C_get h z57 i h0 h1
 have hc : ∀ j u, c[j]? = some u → w.cell? (ad.add (i.toNat * 5 + j)) = some u := hc0
 obtain rfl := k57_open hK
 exact ⟨ad, e, hc 0 _ rfl, by rw [← add_field _ _ 1 (by omega)]; exact hc 1 _ rfl, by rw [← add_field _ _ 2 (by omega)]; exact hc 2 _ rfl, by rw [← add_field _ _ 3 (by omega)]; exact hc 3 _ rfl, by rw [← add_field _ _ 4 (by omega)]; exact hc 4 _ rfl⟩
abbrev Y : Bool := true
abbrev X : Bool := false
end Go.Proofs.Ytfhapffjnafkbaa.V
end
section
namespace Go.Proofs.Ytfhapffjnafkbaa.V
open Go.RowKit Go.Proofs.YtfhapffjnafkbaaW.PrintWords Go.Proofs.YtfhapffjnafkbaaW.PrintLast Go.Proofs.YtfhapffjnafkbaaW.PrintMore
attribute [local go_sem] max2_int min2_int max_two min_two max_three min_three max_four min_four
set_option linter.unusedVariables false
set_option linter.unusedSimpArgs false
theorem eqA33 (d : Nat) (w : World) (x0 y0 : Int) (x1 y1 : Int) :
 (Op.equalIn (d + 2) 33 (.agg #[.int .u64 x0, .int .i64 x1]) (.agg #[.int .u64 y0, .int .i64 y1])).run Try.prog w = .ok (x0 == y0 && (x1 == y1)) w := by
 refine eqA_of Try.underlying33 (by kernel_rfl) ?_
 refine eqf_cons (by rfl) (by go_simp; rfl) (by go_simp; rfl) (by go_simp) ?_
 exact eqf_last (by rfl) (by go_simp; rfl) (by go_simp; rfl) (by go_simp)
end Go.Proofs.Ytfhapffjnafkbaa.V
end
section
namespace Go.Proofs.Ytfhapffjnafkbaa.V
open Go.RowKit Go.Proofs.YtfhapffjnafkbaaW.PrintWords Go.Proofs.YtfhapffjnafkbaaW.PrintLast Go.Proofs.YtfhapffjnafkbaaW.PrintMore
attribute [local go_sem] max2_int min2_int max_two min_two max_three min_three max_four min_four
set_option linter.unusedVariables false
set_option linter.unusedSimpArgs false
attribute [local go_sem high] eqA33
def vergerref5_Same.l0 : Nat → List (S33) → List (S33) → Int → Option (Bool)
  | 0, _, _, _ => none
  | k + 1, x0, x1, x5 => if x5 < (x0.length : Int) then (if 0 ≤ x5 then (if x5 < (x1.length : Int) then (if (!(((rd_T33 x0 x5).f0) == ((rd_T33 x1 x5).f0)) || (!(((rd_T33 x0 x5).f1) == ((rd_T33 x1 x5).f1)))) = true then (some false) else (vergerref5_Same.l0 k x0 x1 (wrap64 (x5 + 1)))) else (none)) else (none)) else (some true)
def vergerref5_Same.f (k : Nat) (l0 : List (S33)) (l1 : List (S33)) : Option (Bool) := if (l0.length : Int) = (l1.length : Int) then (vergerref5_Same.l0 k l0 l1 0) else (some false)
set_option maxHeartbeats 8000000 in
set_option maxRecDepth 100000 in
theorem vergerref5_Same.calls (k : Nat) (A0 : Option Addr) (c0 : Nat) (l0 : List (S33)) (A1 : Option Addr) (c1 : Nat) (l1 : List (S33)) (r : Bool) (w : World) (hr0 : Kd.C k33 w A0 l0.length l0) (hc0 : l0.length ≤ c0) (hr1 : Kd.C k33 w A1 l1.length l1) (hc1 : l1.length ≤ c1) (h : vergerref5_Same.f k l0 l1 = some r) :
 Calls Try.prog 25 #[.slice A0 l0.length c0, .slice A1 l1.length c1] w fun e w' => e = .returned (.bool r) ∧ Drawn0 w w' := by
 have hu33 := Try.underlying33; have HR0 := Aside0.mk hr0; have HC0 := Aside0.mk hc0; clear hr0 hc0; have HR1 := Aside0.mk hr1; have HC1 := Aside0.mk hc1; clear hr1 hc1; have H : (if (l0.length : Int) = (l1.length : Int) then (vergerref5_Same.l0 k l0 l1 0) else (some false)) = some r := h; clear h
 by_cases c3 : (l0.length : Int) = (l1.length : Int)
 · rw [if_pos c3] at H; have c3b0 : ((l0.length : Int) == (l1.length : Int)) = true := beq_iff_eq.mpr c3; have c3b1 : ((l0.length : Int) != (l1.length : Int)) = false := bne_eq_false_iff_eq.mpr c3; (have c3b2 : (l0.length == l1.length) = true := by first | simpa using c3 | (simp at c3 ⊢; omega)); clear c3; have H' := Aside0.mk H; clear H; go_enter Try.func25, Try.ntmps25
   go_wp2
   repeat (go_quiet (fail); try go_wp2)
   go_loopg [5] k (fun kq v5 w' => ∃ (x5_1 : Int), v5 = .int .i64 x5_1 ∧ Aside0 (vergerref5_Same.l0 kq l0 l1 x5_1 = some r) ∧ Aside0 (kq ≤ k) ∧ Drawn0 w w')
   case atStart => exact ⟨(0), (by first | rfl | (simp; done) | (simp [*]; done)), H', ⟨Nat.le_refl _⟩, by repeat (first | exact Drawn0.refl _ | apply Drawn0.step)⟩
   case round =>
    clear H'
    try clear c1
    try clear c2
    try clear p2
    try clear c3
    try clear c3b0
    try clear c3b1
    try clear c3b2
    obtain ⟨x5_1, rfl, HA, HK1, ⟨m1, rfl⟩⟩ := hrel
    cases gk with
    | zero => exact absurd HA.out (by simp [vergerref5_Same.l0])
    | succ k1 =>
     have H := HA.out; clear HA; simp only [vergerref5_Same.l0] at H
     by_cases c4 : x5_1 < (l0.length : Int)
     · rw [if_pos c4] at H; have c4b0 : decide (x5_1 < (l0.length : Int)) = true := decide_eq_true c4; clear c4
       by_cases c5 : 0 ≤ x5_1
       · rw [if_pos c5] at H; have c5b0 : decide (0 ≤ x5_1) = true := decide_eq_true c5; clear c5
         by_cases c6 : x5_1 < (l1.length : Int)
         · rw [if_pos c6] at H; have c6b0 : decide (x5_1 < (l1.length : Int)) = true := decide_eq_true c6; clear c6
           by_cases c7 : (!(((rd_T33 l0 x5_1).f0) == ((rd_T33 l1 x5_1).f0)) || (!(((rd_T33 l0 x5_1).f1) == ((rd_T33 l1 x5_1).f1)))) = true
           · rw [if_pos c7] at H; have c7b0 : (!(((rd_T33 l0 x5_1).f0) == ((rd_T33 l1 x5_1).f0)) || (!(((rd_T33 l0 x5_1).f1) == ((rd_T33 l1 x5_1).f1)))) = true := c7; clear c7; obtain rfl := Option.some.inj H; have p101 : 0 ≤ (x5_1 : Int) := of_decide_eq_true (by first | (with_reducible assumption) | assumption); have q101 : x5_1 < (l0.length : Int) := of_decide_eq_true (by first | (with_reducible assumption) | assumption); obtain ⟨ad101, e101, hx101_0, hx101_1⟩ := at_T33 HR0.out x5_1 p101 q101
             cases e101
             replace p101 := eq_true p101; replace q101 := eq_true q101; have p102 : 0 ≤ (x5_1 : Int) := of_decide_eq_true (by first | (with_reducible assumption) | assumption); have q102 : x5_1 < (l1.length : Int) := of_decide_eq_true (by first | (with_reducible assumption) | assumption); obtain ⟨ad102, e102, hx102_0, hx102_1⟩ := at_T33 HR1.out x5_1 p102 q102
             cases e102
             replace p102 := eq_true p102; replace q102 := eq_true q102
             go_wp2
             repeat (go_quiet (fail); try go_wp2)
             go_ret
             exact ⟨by first | rfl | (simp; done) | (simp [*]; done), by repeat (first | exact Drawn0.refl _ | apply Drawn0.step)⟩
           · rw [if_neg c7] at H; (have c7b0 : (!(((rd_T33 l0 x5_1).f0) == ((rd_T33 l1 x5_1).f0)) || (!(((rd_T33 l0 x5_1).f1) == ((rd_T33 l1 x5_1).f1)))) = false := by simpa using c7); clear c7; have H' := Aside0.mk H; clear H; have p101 : 0 ≤ (x5_1 : Int) := of_decide_eq_true (by first | (with_reducible assumption) | assumption); have q101 : x5_1 < (l0.length : Int) := of_decide_eq_true (by first | (with_reducible assumption) | assumption); obtain ⟨ad101, e101, hx101_0, hx101_1⟩ := at_T33 HR0.out x5_1 p101 q101
             cases e101
             replace p101 := eq_true p101; replace q101 := eq_true q101; have p102 : 0 ≤ (x5_1 : Int) := of_decide_eq_true (by first | (with_reducible assumption) | assumption); have q102 : x5_1 < (l1.length : Int) := of_decide_eq_true (by first | (with_reducible assumption) | assumption); obtain ⟨ad102, e102, hx102_0, hx102_1⟩ := at_T33 HR1.out x5_1 p102 q102
             cases e102
             replace p102 := eq_true p102; replace q102 := eq_true q102
             go_wp2
             repeat (go_quiet (fail); try go_wp2)
             go_roundg k1
             case measure => have := HK1.out; omega
             case rel => exact ⟨(wrap64 (x5_1 + 1)), (by first | rfl | (simp; done) | (simp [*]; done)), H', ⟨by have := HK1.out; omega⟩, by repeat (first | exact Drawn0.refl _ | apply Drawn0.step)⟩
         · rw [if_neg c6] at H; exact absurd H (by simp)
       · rw [if_neg c5] at H; exact absurd H (by simp)
     · rw [if_neg c4] at H; have c4b0 : decide (x5_1 < (l0.length : Int)) = false := decide_eq_false c4; clear c4; obtain rfl := Option.some.inj H
       go_wp2
       repeat (go_quiet (fail); try go_wp2)
       go_ret
       exact ⟨by first | rfl | (simp; done) | (simp [*]; done), by repeat (first | exact Drawn0.refl _ | apply Drawn0.step)⟩
 · rw [if_neg c3] at H; have c3b0 : ((l0.length : Int) == (l1.length : Int)) = false := beq_eq_false_iff_ne.mpr c3; have c3b1 : ((l0.length : Int) != (l1.length : Int)) = true := bne_iff_ne.mpr c3; (have c3b2 : (l0.length == l1.length) = false := by first | simpa using c3 | (simp at c3 ⊢; omega)); obtain rfl := Option.some.inj H; go_enter Try.func25, Try.ntmps25
   go_wp2
   repeat (go_quiet (fail); try go_wp2)
   go_ret
   exact ⟨by first | rfl | (simp; done) | (simp [*]; done), by repeat (first | exact Drawn0.refl _ | apply Drawn0.step)⟩
end Go.Proofs.Ytfhapffjnafkbaa.V
end
section
set_option linter.unusedVariables false
set_option linter.unusedSimpArgs false
namespace Go.Proofs.Ytfhapffjnafkbaa.V
open Go.RowKit Go.Proofs.YtfhapffjnafkbaaW.PrintWords
abbrev E := S33
theorem E.ext' {a b : E} (h0 : a.f0 = b.f0) (h1 : a.f1 = b.f1) : a = b := by cases a; cases b; simp_all
end Go.Proofs.Ytfhapffjnafkbaa.V
end
section
set_option linter.unusedVariables false
set_option linter.unusedSimpArgs false
namespace Go.Proofs.Ytfhapffjnafkbaa.V
open Go.RowKit Go.Proofs.YtfhapffjnafkbaaW.PrintWords Go.Proofs.YtfhapffjnafkbaaW.PrintLast Go.Proofs.YtfhapffjnafkbaaW.PrintMore
theorem cell_row {w : World} {g : Nat} {cur : Array Value} {t : TypeId} (hg : w.heap[g]? = some (.cells cur t (0, 0))) (j : Nat) : w.cell? ⟨g, j, none⟩ = cur[j]? := by
 simp [World.cell?, hg]
theorem frozen_row {w : World} {g : Nat} {cur : Array Value} {t : TypeId} (hg : w.heap[g]? = some (.cells cur t (0, 0))) (j : Nat) : w.frozen? ⟨g, j, none⟩ = false := by
 simp [World.frozen?, hg]
end Go.Proofs.Ytfhapffjnafkbaa.V
end
section
set_option linter.unusedVariables false
set_option linter.unusedSimpArgs false
namespace Go.Proofs.Ytfhapffjnafkbaa.V
open Go.RowKit Go.Proofs.YtfhapffjnafkbaaW.PrintWords Go.Proofs.YtfhapffjnafkbaaW.PrintLast Go.Proofs.YtfhapffjnafkbaaW.PrintMore
structure One where
  key : Int
  id : Int
  full : Bool
  ver : Int
def encO (o : One) : List Value := [.int .u64 o.key, .int .i64 o.id, .bool o.full, .int .u64 o.ver]
def encOs (L : List One) : List Value := L.flatMap encO
theorem encOs_at (L : List One) (t j : Nat) (o : One) (h : L[t]? = some o) (hj : j < 4) : (encOs L)[t * 4 + j]? = (encO o)[j]? := by
 induction L generalizing t with
 | nil => simp at h
 | cons a r ih =>
  cases t with
  | zero =>
   obtain rfl : a = o := by simpa using h
   show (encO a ++ encOs r)[0 * 4 + j]? = _
   rw [List.getElem?_append_left (by simp [encO]; omega)]
   simp
  | succ t =>
   show (encO a ++ encOs r)[(t + 1) * 4 + j]? = _
   rw [List.getElem?_append_right (by simp [encO]; omega), show (t + 1) * 4 + j - (encO a).length = t * 4 + j by simp [encO]; omega]
   exact ih t (by simpa using h)
def SlotsAt (w : World) (p g : Nat) (L : List One) : Prop :=
  p ≠ g ∧ w.heap[p]? = some (.cells #[.slice (some ⟨g, 0, none⟩) L.length L.length] 76 (0, 0)) ∧ w.heap[g]? = some (.cells (encOs L).toArray 80 (0, 0)) ∧ L.length ≤ 8
theorem SlotsAt.head {w : World} {p g : Nat} {L : List One} (h : SlotsAt w p g L) : w.cell? ⟨p, 0, none⟩ = some (.slice (some ⟨g, 0, none⟩) L.length L.length) := by simp [World.cell?, h.2.1]
theorem SlotsAt.cell {w : World} {p g : Nat} {L : List One} (h : SlotsAt w p g L) {t : Nat} {o : One} (ht : L[t]? = some o) (j : Nat) (hj : j < 4) : w.cell? ⟨g, t * 4 + j, none⟩ = (encO o)[j]? := by
 rw [cell_row h.2.2.1 (t * 4 + j)]
 rw [List.getElem?_toArray, encOs_at L t j o ht hj]
theorem SlotsAt.nofrozen {w : World} {p g : Nat} {L : List One} (h : SlotsAt w p g L) (j : Nat) : w.frozen? ⟨g, j, none⟩ = false := frozen_row h.2.2.1 j
theorem SlotsAt.lt {w : World} {p g : Nat} {L : List One} (h : SlotsAt w p g L) : p < w.heap.size ∧ g < w.heap.size := ⟨(Array.getElem?_eq_some_iff.1 h.2.1).1, (Array.getElem?_eq_some_iff.1 h.2.2.1).1⟩
theorem setc_at {W : World} {g j : Nat} {v : Value} {c : Array Value} {e : TypeId} {f : Nat × Nat} (h : W.heap[g]? = some (.cells c e f)) : (W.setCell ⟨g, j, none⟩ v).heap[g]? = some (.cells (c.setIfInBounds j v) e f) := by
 simp only [World.setCell, Array.getElem?_modify, h]
 simp
theorem setc_ne {W : World} {g j k : Nat} {v : Value} (h : k ≠ g) : (W.setCell ⟨g, j, none⟩ v).heap[k]? = W.heap[k]? := by
 simp only [World.setCell, Array.getElem?_modify]
 rw [if_neg (fun e => h e.symm)]
theorem encOs_set (L : List One) : ∀ (t : Nat), t < L.length → ∀ (k i : Int) (f : Bool) (v : Int),
 ((((encOs L).set (t * 4) (.int .u64 k)).set (t * 4 + 1) (.int .i64 i)).set (t * 4 + 2) (.bool f)).set (t * 4 + 3) (.int .u64 v) = encOs (L.set t ⟨k, i, f, v⟩) := by
 induction L with
 | nil => intro t h; simp at h
 | cons a r ih =>
  intro t h k i f v
  cases t with
  | zero => rfl
  | succ t =>
   have := ih t (by simpa using h) k i f v
   show ((((encO a ++ encOs r).set ((t + 1) * 4) _).set ((t + 1) * 4 + 1) _).set ((t + 1) * 4 + 2) _).set ((t + 1) * 4 + 3) _ = encO a ++ encOs (r.set t _)
   rw [← this, show (t + 1) * 4 = t * 4 + 4 by omega, show t * 4 + 4 + 1 = t * 4 + 1 + 4 by omega, show t * 4 + 4 + 2 = t * 4 + 2 + 4 by omega, show t * 4 + 4 + 3 = t * 4 + 3 + 4 by omega]
   simp only [encO, List.cons_append, List.nil_append, List.set_cons_succ]
theorem slots_store {w W : World} {p g : Nat} {L : List One} (h : SlotsAt W p g L) (hB : Below w.heap.size w W) (hw : w.heap.size ≤ W.heap.size) {t : Nat} (ht : t < L.length) (k i : Int) (f : Bool) (v : Int) :
 SlotsAt (((((W.setCell ⟨g, t * 4, none⟩ (.int .u64 k)).setCell ⟨g, t * 4 + 1, none⟩ (.int .i64 i)).setCell ⟨g, t * 4 + 2, none⟩ (.bool f)).setCell ⟨g, t * 4 + 3, none⟩ (.int .u64 v))) p g (L.set t ⟨k, i, f, v⟩) ∧
 w.grownBy (((((W.setCell ⟨g, t * 4, none⟩ (.int .u64 k)).setCell ⟨g, t * 4 + 1, none⟩ (.int .i64 i)).setCell ⟨g, t * 4 + 2, none⟩ (.bool f)).setCell ⟨g, t * 4 + 3, none⟩ (.int .u64 v))) (some g) := by
 obtain ⟨hn, h1, h2, h3⟩ := h
 refine ⟨⟨hn, ?_, ?_, by simpa using h3⟩, ⟨hB.os, hB.tape, hB.output, ?_, ?_⟩⟩
 · rw [setc_ne hn, setc_ne hn, setc_ne hn, setc_ne hn, h1, List.length_set]
 · rw [setc_at (setc_at (setc_at (setc_at h2)))]
   simp only [List.setIfInBounds_toArray]
   rw [encOs_set L t ht]
 · simpa [World.setCell] using hw
 · intro q hq hne
   have hqg : q ≠ g := fun e => hne (by rw [e])
   rw [setc_ne hqg, setc_ne hqg, setc_ne hqg, setc_ne hqg]
   exact hB.block q hq
theorem SlotsAt.drew {w : World} {p g : Nat} {L : List One} (h : SlotsAt w p g L) : SlotsAt w.drew p g L := h
theorem grown_drew {w W : World} {r : Option Nat} (h : w.grownBy W r) : w.grownBy W.drew r := ⟨h.os, h.tape, h.output, h.size, h.block⟩
set_option maxHeartbeats 400000 in
theorem slot_at_in (p g n : Nat) (t : Int) (w : World) (hp : w.cell? ⟨p, 0, none⟩ = some (.slice (some ⟨g, 0, none⟩) n n)) (h0 : 0 ≤ t) (h1 : t < n) (hn : n ≤ 8) :
 Calls Try.prog 41 #[.pointer (some ⟨p, 0, none⟩), .int .i64 t] w fun e w' => e = .returned (.pointer (some ⟨g, t.toNat * 4, none⟩)) ∧ w = w' := by
 have c0 : decide (t < 0) = false := decide_eq_false (by omega)
 have c1 : decide ((n : Int) ≤ t) = false := decide_eq_false (by omega)
 go_enter Try.func41, Try.ntmps41
 go_wp2
 go_ret
 exact ⟨rfl, rfl⟩
set_option maxHeartbeats 400000 in
theorem slot_at_out (p g n : Nat) (t : Int) (w : World) (hp : w.cell? ⟨p, 0, none⟩ = some (.slice (some ⟨g, 0, none⟩) n n)) (h : t < 0 ∨ n ≤ t) (hn : n ≤ 8) :
 Calls Try.prog 41 #[.pointer (some ⟨p, 0, none⟩), .int .i64 t] w fun e w' => e = .returned (.pointer none) ∧ w = w' := by
 by_cases h0 : t < 0
 · have c0 : decide (t < 0) = true := decide_eq_true h0
   clear h
   go_enter Try.func41, Try.ntmps41
   go_wp2
   go_ret
   exact ⟨rfl, rfl⟩
 · have c0 : decide (t < 0) = false := decide_eq_false h0
   have c1 : decide ((n : Int) ≤ t) = true := decide_eq_true (by omega)
   clear h
   go_enter Try.func41, Try.ntmps41
   go_wp2
   go_ret
   exact ⟨rfl, rfl⟩
set_option maxHeartbeats 400000 in
theorem slot_put_out (p g : Nat) (L : List One) (t key id : Int) (w : World) (hs : SlotsAt w p g L) (h : t < 0 ∨ L.length ≤ t) :
 Calls Try.prog 14 #[.pointer (some ⟨p, 0, none⟩), .int .i64 t, .agg #[.int .u64 key, .int .i64 id]] w fun e w' => e = .returned (.int .i64 1) ∧ Below w.heap.size w w' := by
 have HP := Aside0.mk hs.head
 have HL := Aside0.mk hs.lt
 have H8 := Aside0.mk hs.2.2.2
 have HT := Aside0.mk h
 clear hs h
 go_enter Try.func14, Try.ntmps14
 go_wp2_with (first | (go_at_call 41; (refine (slot_at_out p g L.length t _ ?hq HT.out H8.out).mono ?_); (case hq => exact pw_cell_below ((Below.refl _ _).alloc (Nat.le_refl _) _) HP.out); rintro e w' ⟨rfl, rfl⟩))
 go_ret
 exact ⟨rfl, (Below.refl _ _).alloc (Nat.le_refl _) _⟩
theorem SlotsAt.below {w w1 : World} {p g : Nat} {L : List One} (h : SlotsAt w p g L) (hb : Below w.heap.size w w1) : SlotsAt w1 p g L :=
 ⟨h.1, (hb.block _ h.lt.1).trans h.2.1, (hb.block _ h.lt.2).trans h.2.2.1, h.2.2.2⟩
set_option maxHeartbeats 400000 in
theorem slot_put_full (p g : Nat) (L : List One) (t key id : Int) (o : One) (w : World) (hs : SlotsAt w p g L) (h0 : 0 ≤ t) (h1 : L[t.toNat]? = some o) (hf : o.full = true) :
 Calls Try.prog 14 #[.pointer (some ⟨p, 0, none⟩), .int .i64 t, .agg #[.int .u64 key, .int .i64 id]] w fun e w' => e = .returned (.int .i64 7) ∧ Below w.heap.size w w' := by
 have hb : Below w.heap.size w (w.alloc (.cells #[.int .u64 key, .int .i64 id] 33)) := (Below.refl _ _).alloc (Nat.le_refl _) _
 have hs1 := hs.below hb
 have hlt : t < (L.length : Int) := by have := (List.getElem?_eq_some_iff.1 h1).1; omega
 have HP := Aside0.mk hs1.head
 have H8 := Aside0.mk hs.2.2.2
 have H0 := Aside0.mk h0
 have H1 := Aside0.mk hlt
 have c2 := hs1.cell h1 2 (by omega)
 simp only [encO, hf, List.getElem?_cons_succ, List.getElem?_cons_zero] at c2
 clear hs hs1 h0 h1 hlt hf
 go_enter Try.func14, Try.ntmps14
 go_wp2_with (first | (go_at_call 41; (refine (slot_at_in p g L.length t _ ?hq H0.out H1.out H8.out).mono ?_); (case hq => exact HP.out); rintro e w' ⟨rfl, rfl⟩))
 go_ret
 exact ⟨rfl, hb⟩
def setO (L : List One) (t : Int) (o : One) : List One := L.set t.toNat o
set_option maxHeartbeats 400000 in
theorem slot_put_in (p g : Nat) (L : List One) (t key id : Int) (o : One) (w : World) (hs : SlotsAt w p g L) (h0 : 0 ≤ t) (h1 : L[t.toNat]? = some o) (hf : o.full = false) :
 Calls Try.prog 14 #[.pointer (some ⟨p, 0, none⟩), .int .i64 t, .agg #[.int .u64 key, .int .i64 id]] w fun e w' => e = .returned (.int .i64 0) ∧ SlotsAt w' p g (setO L t ⟨key, id, true, IntKind.u64.wrap (o.ver + 1)⟩) ∧ w.grownBy w' (some g) := by
 have hb : Below w.heap.size w (w.alloc (.cells #[.int .u64 key, .int .i64 id] 33)) := (Below.refl _ _).alloc (Nat.le_refl _) _
 have hs1 := hs.below hb
 have hlt : t < (L.length : Int) := by have := (List.getElem?_eq_some_iff.1 h1).1; omega
 have HP := Aside0.mk hs1.head
 have H8 := Aside0.mk hs.2.2.2
 have H0 := Aside0.mk h0
 have H1 := Aside0.mk hlt
 have c0 := hs1.cell h1 0 (by omega)
 have c1 := hs1.cell h1 1 (by omega)
 have c2 := hs1.cell h1 2 (by omega)
 have c3 := hs1.cell h1 3 (by omega)
 have f0 := hs1.nofrozen (t.toNat * 4)
 have f1 := hs1.nofrozen (t.toNat * 4 + 1)
 have f2 := hs1.nofrozen (t.toNat * 4 + 2)
 have f3 := hs1.nofrozen (t.toNat * 4 + 3)
 simp only [encO, hf, List.getElem?_cons_succ, List.getElem?_cons_zero, Nat.add_zero] at c0 c1 c2 c3
 have HS := Aside0.mk hs1
 have HT := Aside0.mk (List.getElem?_eq_some_iff.1 h1).1
 clear hs hs1 h0 h1 hlt hf
 go_enter Try.func14, Try.ntmps14
 go_wp2_with (first | (go_at_call 41; (refine (slot_at_in p g L.length t _ ?hq H0.out H1.out H8.out).mono ?_); (case hq => exact HP.out); rintro e w' ⟨rfl, rfl⟩))
 go_region
 all_goals (go_wp2; go_ret)
 have hst := slots_store (w := w) HS.out hb hb.size (t := t.toNat) HT.out key id true (IntKind.u64.wrap (o.ver + 1))
 exact ⟨rfl, hst.1.drew, grown_drew hst.2⟩
theorem grown_below {w W W' : World} {r : Option Nat} (h : w.grownBy W r) (b : Below W.heap.size W W') : w.grownBy W' r :=
 ⟨b.os.trans h.os, b.tape.trans h.tape, b.output.trans h.output, Nat.le_trans h.size b.size, fun k hk hn => (b.block k (Nat.lt_of_lt_of_le hk h.size)).trans (h.block k hk hn)⟩
theorem slot_cells {w : World} {p g : Nat} {L : List One} {t : Nat} {o : One} (h : SlotsAt w p g L) (ht : L[t]? = some o) :
 w.cell? ⟨g, t * 4, none⟩ = some (.int .u64 o.key) ∧ w.cell? ⟨g, t * 4 + 1, none⟩ = some (.int .i64 o.id) ∧ w.cell? ⟨g, t * 4 + 2, none⟩ = some (.bool o.full) ∧ w.cell? ⟨g, t * 4 + 3, none⟩ = some (.int .u64 o.ver) :=
 ⟨h.cell ht 0 (by omega), h.cell ht 1 (by omega), h.cell ht 2 (by omega), h.cell ht 3 (by omega)⟩
set_option maxHeartbeats 400000 in
theorem slot_empty (p g : Nat) (L : List One) (t : Nat) (o : One) (w : World) (hs : SlotsAt w p g L) (ht : L[t]? = some o) :
 Calls Try.prog 42 #[.pointer (some ⟨g, t * 4, none⟩)] w fun e w' => e = .returned (.agg #[.int .u64 o.key, .int .i64 o.id]) ∧ SlotsAt w' p g (L.set t ⟨0, 0, false, IntKind.u64.wrap (o.ver + 1)⟩) ∧ w.grownBy w' (some g) := by
 have hg := hs.lt.2
 have HL := Aside0.mk (List.getElem?_eq_some_iff.1 ht).1
 obtain ⟨c0, c1, c2, c3⟩ := slot_cells hs ht
 have f0 := hs.nofrozen (t * 4)
 have f1 := hs.nofrozen (t * 4 + 1)
 have f2 := hs.nofrozen (t * 4 + 2)
 have f3 := hs.nofrozen (t * 4 + 3)
 have HS := Aside0.mk hs
 clear hs ht
 go_enter Try.func42, Try.ntmps42
 go_wp2
 have hst := slots_store (w := w) HS.out (Below.refl _ _) (Nat.le_refl _) (t := t) HL.out 0 0 false (IntKind.u64.wrap (o.ver + 1))
 have hb := (((Below.refl _ _).alloc (Nat.le_refl _) (.cells #[.int .u64 o.key, .int .i64 o.id] 33)).alloc (by simp) (.cells #[.int .u64 o.key, .int .i64 o.id] 33) : Below (((((w.setCell ⟨g, t * 4, none⟩ (.int .u64 0)).setCell ⟨g, t * 4 + 1, none⟩ (.int .i64 0)).setCell ⟨g, t * 4 + 2, none⟩ (.bool false)).setCell ⟨g, t * 4 + 3, none⟩ (.int .u64 (IntKind.u64.wrap (o.ver + 1))))).heap.size _ _)
 exact bodyPost_ret (v := .agg #[.int .u64 o.key, .int .i64 o.id]) (by simp [results, Try.results42, go_sem]) rfl ⟨rfl, hst.1.below hb, grown_below hst.2 hb⟩
set_option maxHeartbeats 400000 in
theorem slot_threads (p g : Nat) (L : List One) (w : World) (hs : SlotsAt w p g L) :
 Calls Try.prog 24 #[.pointer (some ⟨p, 0, none⟩)] w fun e w' => e = .returned (.int .i64 L.length) ∧ w = w' := by
 have hp := hs.head
 have hl := hs.2.2.2
 clear hs
 go_enter Try.func24, Try.ntmps24
 go_wp2
 go_ret
 exact ⟨rfl, rfl⟩
set_option maxHeartbeats 400000 in
theorem slot_get_out (p g : Nat) (L : List One) (t : Int) (w : World) (hs : SlotsAt w p g L) (h : t < 0 ∨ L.length ≤ t) :
 Calls Try.prog 16 #[.pointer (some ⟨p, 0, none⟩), .int .i64 t] w fun e w' => e = .returned (.tuple #[.agg #[.int .u64 0, .int .i64 0], .int .u64 0, .bool false]) ∧ Below w.heap.size w w' := by
 have HS := Aside0.mk hs
 have HT := Aside0.mk h
 clear hs h
 go_enter Try.func16, Try.ntmps16
 go_wp2_with (first | (go_at_call 41; (refine (slot_at_out p g L.length t _ ?hq HT.out HS.out.2.2.2).mono ?_); (case hq => exact (HS.out.below ((Below.refl _ _).alloc (Nat.le_refl _) _)).head); rintro e w' ⟨rfl, rfl⟩))
 exact bodyPost_ret (v := .tuple #[.agg #[.int .u64 0, .int .i64 0], .int .u64 0, .bool false]) (by simp [results, Try.results16, go_sem]) rfl ⟨rfl, (Below.refl _ _).alloc (Nat.le_refl _) _⟩
set_option maxHeartbeats 400000 in
theorem slot_get_in (p g : Nat) (L : List One) (t : Int) (o : One) (w : World) (hs : SlotsAt w p g L) (h0 : 0 ≤ t) (h1 : L[t.toNat]? = some o) :
 Calls Try.prog 16 #[.pointer (some ⟨p, 0, none⟩), .int .i64 t] w fun e w' => e = .returned (.tuple #[.agg #[.int .u64 o.key, .int .i64 o.id], .int .u64 o.ver, .bool o.full]) ∧ Below w.heap.size w w' := by
 have hlt := (List.getElem?_eq_some_iff.1 h1).1
 have HS := Aside0.mk hs
 have H0 := Aside0.mk h0
 have H1 := Aside0.mk (show t < (L.length : Int) by omega)
 obtain ⟨c0, c1, c2, c3⟩ := slot_cells (hs.below ((Below.refl _ _).alloc (Nat.le_refl _) (.cells #[.int .u64 0, .int .i64 0] 33))) h1
 obtain ⟨d0, d1, d2, d3⟩ := slot_cells (hs.below ((Below.refl _ _).alloc (Nat.le_refl _) (.cells #[.int .u64 o.key, .int .i64 o.id] 33))) h1
 clear hs h0 h1 hlt
 go_enter Try.func16, Try.ntmps16
 go_wp2_with (first | (go_at_call 41; (refine (slot_at_in p g L.length t _ ?hq H0.out H1.out HS.out.2.2.2).mono ?_); (case hq => exact (HS.out.below ((Below.refl _ _).alloc (Nat.le_refl _) _)).head); rintro e w' ⟨rfl, rfl⟩))
 go_region
 all_goals go_wp2
 exact bodyPost_ret (v := .tuple #[.agg #[.int .u64 o.key, .int .i64 o.id], .int .u64 o.ver, .bool o.full]) (by simp [results, Try.results16, go_sem]) rfl ⟨rfl, below_drew ((Below.refl _ _).alloc (Nat.le_refl _) _)⟩
end Go.Proofs.Ytfhapffjnafkbaa.V
end
section
set_option linter.unusedVariables false
set_option linter.unusedSimpArgs false
namespace Go.Proofs.Ytfhapffjnafkbaa.V
open Go.RowKit Go.Proofs.YtfhapffjnafkbaaW.PrintWords Go.Proofs.YtfhapffjnafkbaaW.PrintLast Go.Proofs.YtfhapffjnafkbaaW.PrintMore
theorem SlotsAt.other {W : World} {p g b j : Nat} {v : Value} {L : List One} (h : SlotsAt W p g L) (hp : p ≠ b) (hg : g ≠ b) : SlotsAt (W.setCell ⟨b, j, none⟩ v) p g L :=
 ⟨h.1, (setc_ne hp).trans h.2.1, (setc_ne hg).trans h.2.2.1, h.2.2.2⟩
theorem grown_set {w W : World} {r : Option Nat} {b j : Nat} {v : Value} (h : w.grownBy W r) (hb : w.heap.size ≤ b) : w.grownBy (W.setCell ⟨b, j, none⟩ v) r :=
 ⟨h.os, h.tape, h.output, by simpa [World.setCell] using h.size, fun k hk hn => (setc_ne (by omega)).trans (h.block k hk hn)⟩
theorem alloc_at (w : World) (o : Obj) : (w.alloc o).heap[w.heap.size]? = some o := by
 show (w.heap.push o)[w.heap.size]? = _
 simp
theorem grown_trans {w W W' : World} {r : Option Nat} (b : Below w.heap.size w W) (h : W.grownBy W' r) : w.grownBy W' r :=
 ⟨h.os.trans b.os, h.tape.trans b.tape, h.output.trans b.output, Nat.le_trans b.size h.size, fun k hk hn => (h.block k (Nat.lt_of_lt_of_le hk b.size) hn).trans (b.block k hk)⟩
abbrev NotTaken (w : World) (e : Ending) (w' : World) : Prop := e = .returned (.tuple #[.agg #[.int .u64 0, .int .i64 0], .bool false]) ∧ Below w.heap.size w w'
set_option maxRecDepth 100000 in
set_option maxHeartbeats 400000 in
theorem slot_take_out (p g : Nat) (L : List One) (t ver : Int) (w : World) (hs : SlotsAt w p g L) (h : t < 0 ∨ L.length ≤ t) :
 Calls Try.prog 15 #[.pointer (some ⟨p, 0, none⟩), .int .i64 t, .int .u64 ver] w (NotTaken w) := by
 have HS := Aside0.mk hs
 have HT := Aside0.mk h
 clear hs h
 go_enter Try.func15, Try.ntmps15
 go_wp2_with (first | (go_at_call 41; (refine (slot_at_out p g L.length t _ ?hq HT.out HS.out.2.2.2).mono ?_); (case hq => exact (HS.out.below ((Below.refl _ _).alloc (Nat.le_refl _) _)).head); rintro e w' ⟨rfl, rfl⟩))
 exact bodyPost_ret (v := .tuple #[.agg #[.int .u64 0, .int .i64 0], .bool false]) (by simp [results, Try.results15, go_sem]) rfl ⟨rfl, (Below.refl _ _).alloc (Nat.le_refl _) _⟩
set_option maxRecDepth 100000 in
set_option maxHeartbeats 400000 in
theorem slot_take_no (p g : Nat) (L : List One) (t ver : Int) (o : One) (w : World) (hs : SlotsAt w p g L) (h0 : 0 ≤ t) (h1 : L[t.toNat]? = some o) (h : o.full = false ∨ o.ver ≠ ver) :
 Calls Try.prog 15 #[.pointer (some ⟨p, 0, none⟩), .int .i64 t, .int .u64 ver] w (NotTaken w) := by
 have hlt := (List.getElem?_eq_some_iff.1 h1).1
 have HS := Aside0.mk hs
 have H0 := Aside0.mk h0
 have H1 := Aside0.mk (show t < (L.length : Int) by omega)
 obtain ⟨c0, c1, c2, c3⟩ := slot_cells (hs.below ((Below.refl _ _).alloc (Nat.le_refl _) (.cells #[.int .u64 0, .int .i64 0] 33))) h1
 clear hs h0 h1 hlt
 by_cases hf : o.full = false
 · rw [hf] at c2
   clear h hf
   go_enter Try.func15, Try.ntmps15
   go_wp2_with (first | (go_at_call 41; (refine (slot_at_in p g L.length t _ ?hq H0.out H1.out HS.out.2.2.2).mono ?_); (case hq => exact (HS.out.below ((Below.refl _ _).alloc (Nat.le_refl _) _)).head); rintro e w' ⟨rfl, rfl⟩))
   exact bodyPost_ret (v := .tuple #[.agg #[.int .u64 0, .int .i64 0], .bool false]) (by simp [results, Try.results15, go_sem]) rfl ⟨rfl, (Below.refl _ _).alloc (Nat.le_refl _) _⟩
 · have hv : (o.ver != ver) = true := by rcases h with h | h <;> simp_all
   have hf' : o.full = true := by simpa using hf
   rw [hf'] at c2
   clear h hf hf'
   go_enter Try.func15, Try.ntmps15
   go_wp2_with (first | (go_at_call 41; (refine (slot_at_in p g L.length t _ ?hq H0.out H1.out HS.out.2.2.2).mono ?_); (case hq => exact (HS.out.below ((Below.refl _ _).alloc (Nat.le_refl _) _)).head); rintro e w' ⟨rfl, rfl⟩))
   exact bodyPost_ret (v := .tuple #[.agg #[.int .u64 0, .int .i64 0], .bool false]) (by simp [results, Try.results15, go_sem]) rfl ⟨rfl, (Below.refl _ _).alloc (Nat.le_refl _) _⟩
set_option maxRecDepth 100000 in
set_option maxHeartbeats 400000 in
theorem slot_take_yes (p g : Nat) (L : List One) (t : Int) (o : One) (w : World) (hs : SlotsAt w p g L) (h0 : 0 ≤ t) (h1 : L[t.toNat]? = some o) (hf : o.full = true) :
 Calls Try.prog 15 #[.pointer (some ⟨p, 0, none⟩), .int .i64 t, .int .u64 o.ver] w fun e w' => e = .returned (.tuple #[.agg #[.int .u64 o.key, .int .i64 o.id], .bool true]) ∧ SlotsAt w' p g (setO L t ⟨0, 0, false, IntKind.u64.wrap (o.ver + 1)⟩) ∧ w.grownBy w' (some g) := by
 have hlt := (List.getElem?_eq_some_iff.1 h1).1
 have HT := Aside0.mk h1
 have hb0 := (Below.refl w.heap.size w).alloc (Nat.le_refl _) (.cells #[.int .u64 0, .int .i64 0] 33)
 have HB0 := Aside0.mk hb0
 have HS := Aside0.mk (hs.below hb0)
 have H0 := Aside0.mk h0
 have H1 := Aside0.mk (show t < (L.length : Int) by omega)
 have HL := Aside0.mk hs.lt
 obtain ⟨c0, c1, c2, c3⟩ := slot_cells (hs.below hb0) h1
 rw [hf] at c2
 clear hs h0 h1 hlt hb0 hf
 go_enter Try.func15, Try.ntmps15
 go_wp2_with (first
  | (go_at_call 41; (refine (slot_at_in p g L.length t _ ?hq H0.out H1.out HS.out.2.2.2).mono ?_); (case hq => exact HS.out.head); rintro e w' ⟨rfl, rfl⟩)
  | (go_at_call 42; (refine (slot_empty p g L t.toNat o _ HS.out HT.out).mono ?_); rintro e w1 ⟨rfl, hs1, hg1⟩; have hb := (hg1.block w.heap.size (by simp) (by have := HL.out.2; simp; omega)).trans (alloc_at w (.cells #[.int .u64 0, .int .i64 0] 33)); have k0 : w1.cell? ⟨w.heap.size, 0, none⟩ = some (.int .u64 0) := cell_row hb 0; have k1 : w1.cell? ⟨w.heap.size, 1, none⟩ = some (.int .i64 0) := cell_row hb 1; have f0 := frozen_row hb 0; have f1 := frozen_row hb 1; have HS1 := Aside0.mk hs1; have HG1 := Aside0.mk hg1; clear hs1 hg1 hb))
 refine bodyPost_ret (v := .tuple #[.agg #[.int .u64 o.key, .int .i64 o.id], .bool true]) (by simp [results, Try.results15, go_sem, k0, k1]) rfl ⟨rfl, ?_, ?_⟩
 · exact (HS1.out.other (by have := HL.out.1; omega) (by have := HL.out.2; omega)).other (by have := HL.out.1; omega) (by have := HL.out.2; omega)
 · exact grown_set (grown_set (grown_trans HB0.out HG1.out) (Nat.le_refl _)) (Nat.le_refl _)
set_option maxRecDepth 100000 in
set_option maxHeartbeats 400000 in
theorem slot_new_bad (n : Int) (w : World) (h : n < 1 ∨ 8 < n) : Calls Try.prog 13 #[.int .i64 n] w fun e w' => e = .returned (.tuple #[.pointer none, .int .i64 1]) ∧ w = w' := by
 by_cases h0 : n < 1
 · have c0 : decide (n < 1) = true := decide_eq_true h0
   clear h
   go_enter Try.func13, Try.ntmps13
   go_wp2
   exact bodyPost_ret (v := .tuple #[.pointer none, .int .i64 1]) (by simp [results, Try.results13, go_sem]) rfl ⟨rfl, rfl⟩
 · have c0 : decide (n < 1) = false := decide_eq_false h0
   have c1 : decide (8 < n) = true := decide_eq_true (by omega)
   clear h
   go_enter Try.func13, Try.ntmps13
   go_wp2
   exact bodyPost_ret (v := .tuple #[.pointer none, .int .i64 1]) (by simp [results, Try.results13, go_sem]) rfl ⟨rfl, rfl⟩
def zeroO : One := ⟨0, 0, false, 0⟩
theorem made_slots (n : Nat) (h0 : 1 ≤ n) (h1 : n ≤ 8) : madeCells #[.int .u64 0, .int .i64 0, .bool false, .int .u64 0] (n * 4) = (encOs (List.replicate n zeroO)).toArray := by
 have : n = 1 ∨ n = 2 ∨ n = 3 ∨ n = 4 ∨ n = 5 ∨ n = 6 ∨ n = 7 ∨ n = 8 := by omega
 rcases this with rfl | rfl | rfl | rfl | rfl | rfl | rfl | rfl <;> (apply Array.ext'; simp [madeCells, Array.toList_map, Array.toList_range, List.range, List.range.loop, encOs, encO, zeroO, List.replicate])
theorem infoOne : (Try.prog.info? 80).map (fun i => (i.zero, i.size, i.bytes)) = some (some (.agg #[.int .u64 0, .int .i64 0, .bool false, .int .u64 0]), 4, 32) := by kernel_rfl
theorem make_slots (n : Nat) (h0 : 1 ≤ n) (h1 : n ≤ 8) (W : World) : (Instr.makeSlice 74 (.int .i64 (n : Int)) (.int .i64 (n : Int))).run Try.prog W = .ok (.slice (some ⟨W.heap.size, 0, none⟩) n n) (W.alloc (.cells (encOs (List.replicate n zeroO)).toArray 80)) := by
 obtain ⟨i0, hi, hzz⟩ := Option.map_eq_some_iff.1 infoOne
 simp only [Prod.mk.injEq] at hzz
 obtain ⟨hz0, hz1, hz2⟩ := hzz
 have hr := run_make (P := Try.prog) W 74 80 i0 _ Try.underlying74 hi hz0 .i64 .i64 (n : Int) (n : Int) (by omega) (by omega) (by rw [hz2]; omega) (by omega)
 simp only [Int.toNat_natCast, hz1] at hr
 rw [hr]
 show Result.ok _ (W.alloc (.cells (madeCells #[.int .u64 0, .int .i64 0, .bool false, .int .u64 0] (n * 4)) 80)) = _
 rw [made_slots n h0 h1]
set_option maxRecDepth 100000 in
set_option maxHeartbeats 400000 in
theorem slot_new (n : Nat) (w : World) (h0 : 1 ≤ n) (h1 : n ≤ 8) : Calls Try.prog 13 #[.int .i64 n] w fun e w' => ∃ p g : Nat, w.heap.size ≤ p ∧ w.heap.size ≤ g ∧ e = .returned (.tuple #[.pointer (some ⟨p, 0, none⟩), .int .i64 0]) ∧ SlotsAt w' p g (List.replicate n zeroO) ∧ Below w.heap.size w w' := by
 have c0 : decide ((n : Int) < 1) = false := decide_eq_false (by omega)
 have c1 : decide (8 < (n : Int)) = false := decide_eq_false (by omega)
 have hm := make_slots n h0 h1 w
 have H1 := Aside0.mk h1
 clear h0 h1
 go_enter Try.func13, Try.ntmps13
 go_wp2
 have hb := (((Below.refl w.heap.size w).alloc (Nat.le_refl _) (.cells (encOs (List.replicate n zeroO)).toArray 80)).alloc (by simp) (.cells #[.slice (some ⟨w.heap.size, 0, none⟩) n n] 76))
 have hs1 : (w.alloc (.cells (encOs (List.replicate n zeroO)).toArray 80)).heap.size = w.heap.size + 1 := by simp
 have hp := alloc_at (w.alloc (.cells (encOs (List.replicate n zeroO)).toArray 80)) (.cells #[.slice (some ⟨w.heap.size, 0, none⟩) n n] 76)
 rw [hs1] at hp
 have hg := (((Below.refl _ (w.alloc (.cells (encOs (List.replicate n zeroO)).toArray 80))).alloc (Nat.le_refl _) (.cells #[.slice (some ⟨w.heap.size, 0, none⟩) n n] 76)).block w.heap.size (by omega)).trans (alloc_at w (.cells (encOs (List.replicate n zeroO)).toArray 80))
 exact bodyPost_ret (v := .tuple #[.pointer (some ⟨w.heap.size + 1, 0, none⟩), .int .i64 0]) (by simp [results, Try.results13, go_sem]) rfl ⟨w.heap.size + 1, w.heap.size, by omega, Nat.le_refl _, rfl, ⟨by omega, by rw [List.length_replicate]; exact hp, hg, by rw [List.length_replicate]; exact H1.out⟩, hb⟩
end Go.Proofs.Ytfhapffjnafkbaa.V
end
section
set_option linter.unusedVariables false
set_option linter.unusedSimpArgs false
namespace Go.Proofs.Ytfhapffjnafkbaa.V
open Go.RowKit Go.Proofs.YtfhapffjnafkbaaW.PrintWords Go.Proofs.YtfhapffjnafkbaaW.PrintLast Go.Proofs.YtfhapffjnafkbaaW.PrintMore
def hasO (id : Int) (o : One) : Bool := o.full && (o.id == id)
set_option maxRecDepth 100000 in
set_option maxHeartbeats 400000 in
theorem slot_dropfn (id : Int) (o : One) (gb : Nat) (w : World) (hb : w.heap[gb]? = some (.cells #[.int .i64 id] 3 (0, 0))) :
 Calls Try.prog 45 #[.agg #[.int .u64 o.key, .int .i64 o.id, .bool o.full, .int .u64 o.ver], .pointer (some ⟨gb, 0, none⟩)] w fun e w' => e = .returned (.bool (hasO id o)) ∧ Below w.heap.size w w' := by
 have hgl : gb < w.heap.size := (Array.getElem?_eq_some_iff.1 hb).1
 have hc : w.cell? ⟨gb, 0, none⟩ = some (.int .i64 id) := cell_row hb 0
 clear hb
 cases hf : o.full with
 | false =>
  have hh : hasO id o = false := by simp [hasO, hf]
  rw [hh]
  clear hh
  go_enter Try.func45, Try.ntmps45
  go_wp2
  go_ret
  exact ⟨rfl, (Below.refl _ _).alloc (Nat.le_refl _) _⟩
 | true =>
  have hh : hasO id o = (o.id == id) := by simp [hasO, hf]
  rw [hh]
  clear hh
  go_enter Try.func45, Try.ntmps45
  go_wp2
  go_ret
  exact ⟨rfl, (Below.refl _ _).alloc (Nat.le_refl _) _⟩
def fstO (L : List One) (id : Int) : Int := if L.findIdx (hasO id) < L.length then ((L.findIdx (hasO id) : Nat) : Int) else -1
theorem fstO_at {L : List One} {id : Int} {k : Nat} {o : One} (hk : L[k]? = some o) (hle : k ≤ L.findIdx (hasO id)) (h : hasO id o = true) : fstO L id = k := by
 obtain ⟨hlt, rfl⟩ := List.getElem?_eq_some_iff.1 hk
 have : L.findIdx (hasO id) ≤ k := by
  rcases Nat.lt_or_ge k (L.findIdx (hasO id)) with h1 | h1
  · have := List.not_of_lt_findIdx h1
    rw [h] at this
    cases this
  · exact h1
 unfold fstO
 rw [if_pos (by omega)]
 omega
theorem fstO_next {L : List One} {id : Int} {k : Nat} {o : One} (hk : L[k]? = some o) (hle : k ≤ L.findIdx (hasO id)) (h : hasO id o = false) : k + 1 ≤ L.findIdx (hasO id) := by
 obtain ⟨hlt, rfl⟩ := List.getElem?_eq_some_iff.1 hk
 rcases Nat.lt_or_ge k (L.findIdx (hasO id)) with h1 | h1
 · exact h1
 · have he : L.findIdx (hasO id) = k := by omega
   have := ((List.findIdx_eq hlt).1 he).1
   rw [h] at this
   cases this
set_option maxRecDepth 100000 in
set_option maxHeartbeats 400000 in
theorem slot_index (p g gb : Nat) (L : List One) (id : Int) (w : World) (hs : SlotsAt w p g L) (hb : w.heap[gb]? = some (.cells #[.int .i64 id] 3 (0, 0))) :
 Calls Try.prog 44 #[.slice (some ⟨g, 0, none⟩) L.length L.length, .func (.func 45) #[] #[.pointer (some ⟨gb, 0, none⟩)]] w fun e w' => e = .returned (.int .i64 (fstO L id)) ∧ Below w.heap.size w w' := by
 have HGL := Aside0.mk (Array.getElem?_eq_some_iff.1 hb).1
 have HG := Aside0.mk hb
 have HS := Aside0.mk hs
 have hl : L.length ≤ 8 := hs.2.2.2
 clear hs hb
 go_enter Try.func44, Try.ntmps44
 go_wp2
 go_loopw [8] (fun i wr => ∃ k : Nat, k ≤ L.length ∧ Aside0 (k ≤ L.findIdx (hasO id)) ∧ i = .int .i64 k ∧ Aside0 (Below w.heap.size w wr)) (fun i _ => L.length - (intOf i).toNat)
 case atStart => exact ⟨0, Nat.zero_le _, ⟨Nat.zero_le _⟩, rfl, ⟨Below.refl _ _⟩⟩
 case round =>
  obtain ⟨k, hk, HK, rfl, HB⟩ := hrel
  by_cases hlt : k < L.length
  · obtain ⟨o, ho⟩ : ∃ o, L[k]? = some o := ⟨_, List.getElem?_eq_getElem hlt⟩
    obtain ⟨c0, c1, c2, c3⟩ := slot_cells (HS.out.below HB.out) ho
    have HO := Aside0.mk ho
    clear ho
    cases hh : hasO id o with
    | true =>
     have HH := Aside0.mk hh
     clear hh
     go_wp2_with (first | ((with_reducible refine gate_dst (N := 16) rfl ?_); refine goesLC_ (some 16) rfl rfl Try.func45 (by kernel_rfl) rfl #[.agg #[.int .u64 o.key, .int .i64 o.id, .bool o.full, .int .u64 o.ver], .pointer (some ⟨gb, 0, none⟩)] rfl rfl (by (try simp only [List.map_toArray, List.map_cons, List.map_nil]); first | done | rfl) ?_; (with_reducible refine (slot_dropfn id o gb _ ((HB.out.block gb HGL.out).trans HG.out)).mono ?_); rintro e w8 ⟨rfl, hb⟩; rw [HH.out]; refine ⟨_, rfl, ?_⟩; have HB2 := Aside0.mk (below_step HB.out hb); clear hb))
     go_ret
     exact ⟨by rw [fstO_at HO.out HK.out HH.out]; rfl, HB2.out⟩
    | false =>
     have HH := Aside0.mk hh
     clear hh
     go_wp2_with (first | ((with_reducible refine gate_dst (N := 16) rfl ?_); refine goesLC_ (some 16) rfl rfl Try.func45 (by kernel_rfl) rfl #[.agg #[.int .u64 o.key, .int .i64 o.id, .bool o.full, .int .u64 o.ver], .pointer (some ⟨gb, 0, none⟩)] rfl rfl (by (try simp only [List.map_toArray, List.map_cons, List.map_nil]); first | done | rfl) ?_; (with_reducible refine (slot_dropfn id o gb _ ((HB.out.block gb HGL.out).trans HG.out)).mono ?_); rintro e w8 ⟨rfl, hb⟩; rw [HH.out]; refine ⟨_, rfl, ?_⟩; have HB2 := Aside0.mk (below_step HB.out hb); clear hb))
     go_roundw
     case rel => exact ⟨k + 1, by omega, ⟨fstO_next HO.out HK.out HH.out⟩, by go_num, HB2⟩
     case measure => simp [intOf]; omega
  · go_wp2
    go_ret
    exact ⟨by unfold fstO; rw [if_neg (by have := HK.out; omega)]; rfl, HB.out⟩
theorem fstO_neg {L : List One} {id : Int} : fstO L id = -1 ∨ ∃ k o, L[k]? = some o ∧ fstO L id = ((k : Nat) : Int) ∧ hasO id o = true := by
 unfold fstO
 by_cases h : L.findIdx (hasO id) < L.length
 · rw [if_pos h]
   exact .inr ⟨_, _, List.getElem?_eq_getElem h, rfl, List.findIdx_getElem (w := h)⟩
 · rw [if_neg h]
   exact .inl rfl
set_option maxRecDepth 100000 in
set_option maxHeartbeats 400000 in
theorem slot_drop_no (p g : Nat) (L : List One) (id : Int) (w : World) (hs : SlotsAt w p g L) (h : fstO L id = -1) :
 Calls Try.prog 23 #[.pointer (some ⟨p, 0, none⟩), .int .i64 id] w fun e w' => e = .returned (.bool false) ∧ Below w.heap.size w w' := by
 have hb0 := (Below.refl w.heap.size w).alloc (Nat.le_refl _) (.cells #[.int .i64 id] 3)
 have HB0 := Aside0.mk hb0
 have HS := Aside0.mk (hs.below hb0)
 have hp := (hs.below hb0).head
 have hl : L.length ≤ 8 := hs.2.2.2
 have HH := Aside0.mk h
 clear hs hb0 h
 go_enter Try.func23, Try.ntmps23
 go_wp2_with (first | (go_at_call 44; (refine (slot_index p g w.heap.size L id _ HS.out (alloc_at w (.cells #[.int .i64 id] 3))).mono ?_); rintro e w1 ⟨rfl, hb⟩; rw [HH.out]; have HB1 := Aside0.mk (below_step HB0.out hb); clear hb))
 go_ret
 exact ⟨rfl, HB1.out⟩
set_option maxRecDepth 100000 in
set_option maxHeartbeats 400000 in
theorem slot_drop_yes (p g : Nat) (L : List One) (id : Int) (k : Nat) (o : One) (w : World) (hs : SlotsAt w p g L) (h : fstO L id = (k : Int)) (ho : L[k]? = some o) :
 Calls Try.prog 23 #[.pointer (some ⟨p, 0, none⟩), .int .i64 id] w fun e w' => e = .returned (.bool true) ∧ SlotsAt w' p g (L.set k ⟨0, 0, false, IntKind.u64.wrap (o.ver + 1)⟩) ∧ w.grownBy w' (some g) := by
 have hb0 := (Below.refl w.heap.size w).alloc (Nat.le_refl _) (.cells #[.int .i64 id] 3)
 have HB0 := Aside0.mk hb0
 have HS := Aside0.mk (hs.below hb0)
 have hp := (hs.below hb0).head
 have hl : L.length ≤ 8 := hs.2.2.2
 have hk : k < L.length := (List.getElem?_eq_some_iff.1 ho).1
 have HO := Aside0.mk ho
 have HH := Aside0.mk h
 clear hs hb0 h ho
 go_enter Try.func23, Try.ntmps23
 go_wp2_with (first
  | (go_at_call 44; (refine (slot_index p g w.heap.size L id _ HS.out (alloc_at w (.cells #[.int .i64 id] 3))).mono ?_); rintro e w1 ⟨rfl, hb⟩; rw [HH.out]; have HB1 := Aside0.mk (below_step HB0.out hb); have HS1 := Aside0.mk (HS.out.below hb); have hp1 := HS1.out.head; clear hb)
  | (go_at_call 42; (refine (slot_empty p g L k o _ HS1.out HO.out).mono ?_); rintro e w2 ⟨rfl, hs2, hg2⟩; have HS2 := Aside0.mk hs2; have HG2 := Aside0.mk (grown_trans HB1.out hg2); clear hs2 hg2))
 go_ret
 exact ⟨rfl, HS2.out, HG2.out⟩
end Go.Proofs.Ytfhapffjnafkbaa.V
end
section
set_option linter.unusedVariables false
set_option linter.unusedSimpArgs false
namespace Go.Proofs.Ytfhapffjnafkbaa.V
open Go.RowKit Go.Proofs.YtfhapffjnafkbaaW.PrintWords Go.Proofs.YtfhapffjnafkbaaW.PrintLast Go.Proofs.YtfhapffjnafkbaaW.PrintMore
theorem wrap_id {i : Int} (h0 : -9223372036854775808 ≤ i) (h1 : i ≤ 9223372036854775807) : wrap64 i = i := by unfold wrap64; omega
theorem wrap_nat {n : Nat} (h : n ≤ 4611686018427387904) : wrap64 ((n : Int) + 1) = ((n + 1 : Nat) : Int) := by rw [wrap_id (by omega) (by omega)]; omega
theorem succ_of {k n : Nat} (h : n < k) : ∃ m, k = m + 1 ∧ n ≤ m := ⟨k - 1, by omega, by omega⟩
end Go.Proofs.Ytfhapffjnafkbaa.V
end
section
set_option linter.unusedVariables false
set_option linter.unusedSimpArgs false
namespace Go.Proofs.YtfhapffjnafkbaaW.PrintWords
open Go.RowKit
namespace Kd
theorem RC_Vbase {α : Type} {d : Kd α} {e base b2 : Nat} {ok : Nat → Prop} {w : World} {v : Value} {xs : List α} (h : d.RC e w base ok v xs) : V d e w b2 (fun k => base ≤ k) v xs := by
 obtain ⟨_, A, n, c, c', rfl, h1, h2, h3⟩ := h
 obtain ⟨hn, hc, hF⟩ := V_at (R_V (base' := base) (R_mono (R_bound h3) (fun k hk => hk.2.1) : d.R e w base (fun k => base ≤ k) _ _))
 subst hn
 exact ⟨A, c, rfl, h1, hF⟩
end Kd
end Go.Proofs.YtfhapffjnafkbaaW.PrintWords
namespace Go.Proofs.Ytfhapffjnafkbaa.V
open Go.RowKit Go.Proofs.YtfhapffjnafkbaaW.PrintWords Go.Proofs.YtfhapffjnafkbaaW.PrintLast Go.Proofs.YtfhapffjnafkbaaW.PrintMore
theorem clip_exact (A : Option Addr) (n c : Nat) (w : World) (hl : n ≤ c) (hm : n ≤ 9223372036854775807) :
 Calls Try.prog 43 #[.slice A n c] w fun e w' => e = .returned (.slice A n n) ∧ w = w' := by
 go_enter Try.func43, Try.ntmps43
 go_wp2
 go_ret
 exact ⟨rfl, rfl⟩
end Go.Proofs.Ytfhapffjnafkbaa.V
end
section
set_option linter.unusedVariables false
set_option linter.unusedSimpArgs false
namespace Go.Proofs.Ytfhapffjnafkbaa.V
open Go.RowKit Go.Proofs.YtfhapffjnafkbaaW.PrintWords Go.Proofs.YtfhapffjnafkbaaW.PrintLast Go.Proofs.YtfhapffjnafkbaaW.PrintMore
def allO (L : List One) : List E := (L.filter fun o => o.full).map fun o => ⟨o.key, o.id⟩
theorem allO_take {L : List One} {k : Nat} {o : One} (h : L[k]? = some o) : allO (L.take (k + 1)) = if o.full = true then allO (L.take k) ++ [⟨o.key, o.id⟩] else allO (L.take k) := by
 obtain ⟨hlt, rfl⟩ := List.getElem?_eq_some_iff.1 h
 unfold allO
 rw [List.take_succ_eq_append_getElem hlt, List.filter_append, List.map_append]
 cases hf : (L[k]).full <;> simp [hf]
theorem allO_len (L : List One) : (allO L).length ≤ L.length := by unfold allO; rw [List.length_map]; exact List.length_filter_le _ _
set_option maxRecDepth 100000 in
set_option maxHeartbeats 400000 in
theorem slot_all (p g : Nat) (L : List One) (w : World) (hs : SlotsAt w p g L) :
 Calls Try.prog 22 #[.pointer (some ⟨p, 0, none⟩)] w fun e w' => ∃ v0_ : Value, e = .returned (v0_) ∧ Kd.V k33 33 w' w.heap.size (fun k_ => (w.heap.size ≤ k_)) v0_ (allO L) ∧ Below w.heap.size w w' := by
 have hp := hs.head
 have hl : L.length ≤ 8 := hs.2.2.2
 have HS := Aside0.mk hs
 clear hs
 go_enter Try.func22, Try.ntmps22
 go_wp2
 go_loopw [3, 11] (fun v i wr => ∃ k : Nat, k ≤ L.length ∧ i = .int .i64 k ∧ Aside0 (Kd.R k33 33 wr w.heap.size (fun _ => True) v (allO (L.take k))) ∧ Aside0 (Below w.heap.size w wr)) (fun _ i _ => L.length - (intOf i).toNat)
 case atStart => exact ⟨0, Nat.zero_le _, rfl, ⟨Kd.R_nil _ _ _ _ _⟩, ⟨Below.refl _ _⟩⟩
 case round =>
  obtain ⟨k, hk, rfl, HR, HB⟩ := hrel
  by_cases hlt : k < L.length
  · obtain ⟨o, ho⟩ : ∃ o, L[k]? = some o := ⟨_, List.getElem?_eq_getElem hlt⟩
    obtain ⟨c0, c1, c2, c3⟩ := slot_cells (HS.out.below HB.out) ho
    have HO := Aside0.mk ho
    have HT := Aside0.mk (allO_take ho)
    have hle : (allO (L.take k)).length ≤ 8 := Nat.le_trans (allO_len _) (by rw [List.length_take]; omega)
    clear ho
    cases hf : o.full with
    | true =>
     rw [hf] at c2
     rw [hf, if_pos rfl] at HT
     clear hf
     go_wp2_with (at_builtin; go_loud (refine Kd.R_append k33 (w0 := w) w.heap.size rfl (.tmp 17) (.tmp 20) 44 33 (.agg #[(.int .u64 0), (.int .i64 0)]) 16 rfl Try.underlying44 info33 rfl (by decide) (by omega) u3 (allO (L.take k)) (⟨o.key, o.id⟩ : E) [.int .u64 o.key, .int .i64 o.id] (fun _ => True) (fun _ => False) rfl ?aX ?aP (fun _ hk => hk.elim) ?aF ?aO ?aB ?aS ?aL ?_; (case aX => simp [Act.eval]); (case aP => exact k33_mkM _ _ _ (⟨o.key, o.id⟩ : E)); (case aF => exact fun _ _ => trivial); (case aO => exact Kd.R_alloc HR.out _); (case aB => exact below_alloc HB.out _); (case aS => exact (below_alloc HB.out _).size); (case aL => omega); intro v1 w1 ho1 hb1 hg1 hat1; have HR1 := Aside0.mk ho1; have HB1 := Aside0.mk hb1; clear ho1 hb1 hg1 hat1))
     go_roundw
     case rel => exact ⟨k + 1, by omega, by go_num, ⟨by rw [HT.out]; exact HR1.out⟩, HB1⟩
     case measure => simp [intOf]; omega
    | false =>
     rw [hf] at c2
     rw [hf, if_neg (by simp)] at HT
     clear hf
     go_wp2
     go_roundw
     case rel => exact ⟨k + 1, by omega, by go_num, ⟨by rw [HT.out]; exact Kd.R_alloc HR.out _⟩, ⟨below_alloc HB.out _⟩⟩
     case measure => simp [intOf]; omega
  · obtain rfl : k = L.length := by omega
    rw [List.take_length] at HR
    obtain ⟨A1, c1, e1⟩ := Kd.R_slice HR.out
    subst e1
    have HC1 := Aside0.mk (Kd.R_reads' HR.out).2.1
    have HM := Aside0.mk (show (allO L).length ≤ 9223372036854775807 from Nat.le_trans (allO_len L) (by omega))
    go_wp2_with (first | (go_at_call 43; (refine (clip_exact A1 (allO L).length c1 _ HC1.out HM.out).mono ?_); rintro e w2 ⟨rfl, rfl⟩))
    go_ret
    exact ⟨_, rfl, Kd.RC_Vbase (Kd.RC_cut HR.out (Nat.le_refl _) HC1.out), HB.out⟩
end Go.Proofs.Ytfhapffjnafkbaa.V
end
section
set_option linter.unusedVariables false
set_option linter.unusedSimpArgs false
namespace Go.Proofs.Ytfhapffjnafkbaa.V
open Go.RowKit Go.Proofs.YtfhapffjnafkbaaW.PrintWords Go.Proofs.YtfhapffjnafkbaaW.PrintLast Go.Proofs.YtfhapffjnafkbaaW.PrintMore
theorem SlotsAt.grown_none {w w1 : World} {p g : Nat} {L : List One} (h : SlotsAt w p g L) (hb : Below w.heap.size w w1) : SlotsAt w1 p g L ∧ w.grownBy w1 (some g) := ⟨h.below hb, grown_of_below hb _⟩
def slotAt (L : List One) (t : Int) : Option One := if 0 ≤ t then L[t.toNat]? else none
theorem slotAt_none {L : List One} {t : Int} (h : slotAt L t = none) : t < 0 ∨ (L.length : Int) ≤ t := by
 unfold slotAt at h
 by_cases h0 : 0 ≤ t
 · rw [if_pos h0, List.getElem?_eq_none_iff] at h
   omega
 · omega
theorem slotAt_some {L : List One} {t : Int} {o : One} (h : slotAt L t = some o) : 0 ≤ t ∧ L[t.toNat]? = some o := by
 unfold slotAt at h
 by_cases h0 : 0 ≤ t
 · rw [if_pos h0] at h
   exact ⟨h0, h⟩
 · rw [if_neg h0] at h
   cases h
def putR (L : List One) (t key id : Int) : Int × List One :=
  match slotAt L t with
  | none => (1, L)
  | some o => if o.full = true then (7, L) else (0, L.set t.toNat ⟨key, id, true, IntKind.u64.wrap (o.ver + 1)⟩)
theorem slot_put (p g : Nat) (L : List One) (t key id : Int) (w : World) (hs : SlotsAt w p g L) :
 Calls Try.prog 14 #[.pointer (some ⟨p, 0, none⟩), .int .i64 t, .agg #[.int .u64 key, .int .i64 id]] w fun e w' => e = .returned (.int .i64 (putR L t key id).1) ∧ SlotsAt w' p g (putR L t key id).2 ∧ w.grownBy w' (some g) := by
 unfold putR
 cases h : slotAt L t with
 | none => exact (slot_put_out p g L t key id w hs (slotAt_none h)).mono fun e w' hh => ⟨hh.1, hs.grown_none hh.2⟩
 | some o =>
  obtain ⟨h0, h1⟩ := slotAt_some h
  cases hf : o.full with
  | true => simp only [hf, if_true]; exact (slot_put_full p g L t key id o w hs h0 h1 hf).mono fun e w' hh => ⟨hh.1, hs.grown_none hh.2⟩
  | false => simp only [hf]; exact (slot_put_in p g L t key id o w hs h0 h1 hf).mono fun e w' hh => hh
def takeR (L : List One) (t ver : Int) : (Int × Int × Bool) × List One :=
  match slotAt L t with
  | none => ((0, 0, false), L)
  | some o => if o.full = true then (if o.ver = ver then ((o.key, o.id, true), L.set t.toNat ⟨0, 0, false, IntKind.u64.wrap (o.ver + 1)⟩) else ((0, 0, false), L)) else ((0, 0, false), L)
theorem slot_take (p g : Nat) (L : List One) (t ver : Int) (w : World) (hs : SlotsAt w p g L) :
 Calls Try.prog 15 #[.pointer (some ⟨p, 0, none⟩), .int .i64 t, .int .u64 ver] w fun e w' => e = .returned (.tuple #[.agg #[.int .u64 (takeR L t ver).1.1, .int .i64 (takeR L t ver).1.2.1], .bool (takeR L t ver).1.2.2]) ∧ SlotsAt w' p g (takeR L t ver).2 ∧ w.grownBy w' (some g) := by
 unfold takeR
 cases h : slotAt L t with
 | none => exact (slot_take_out p g L t ver w hs (slotAt_none h)).mono fun e w' hh => ⟨hh.1, hs.grown_none hh.2⟩
 | some o =>
  obtain ⟨h0, h1⟩ := slotAt_some h
  cases hf : o.full with
  | true =>
   simp only [hf, if_true]
   by_cases hv : o.ver = ver
   · subst hv
     rw [if_pos rfl]
     exact (slot_take_yes p g L t o w hs h0 h1 hf).mono fun e w' hh => hh
   · rw [if_neg hv]
     exact (slot_take_no p g L t ver o w hs h0 h1 (.inr hv)).mono fun e w' hh => ⟨hh.1, hs.grown_none hh.2⟩
  | false => simp only [hf]; exact (slot_take_no p g L t ver o w hs h0 h1 (.inl hf)).mono fun e w' hh => ⟨hh.1, hs.grown_none hh.2⟩
def getR (L : List One) (t : Int) : One := (slotAt L t).getD zeroO
theorem slot_get (p g : Nat) (L : List One) (t : Int) (w : World) (hs : SlotsAt w p g L) :
 Calls Try.prog 16 #[.pointer (some ⟨p, 0, none⟩), .int .i64 t] w fun e w' => e = .returned (.tuple #[.agg #[.int .u64 (getR L t).key, .int .i64 (getR L t).id], .int .u64 (getR L t).ver, .bool (getR L t).full]) ∧ Below w.heap.size w w' := by
 unfold getR
 cases h : slotAt L t with
 | none => exact slot_get_out p g L t w hs (slotAt_none h)
 | some o => obtain ⟨h0, h1⟩ := slotAt_some h; exact slot_get_in p g L t o w hs h0 h1
set_option maxRecDepth 100000 in
set_option maxHeartbeats 400000 in
theorem slots_awake (w : World) : Calls Try.prog 17 #[] w fun e w' => e = .returned (.bool true) ∧ Below w.heap.size w w' := by
 go_enter Try.func17, Try.ntmps17
 go_wp2_with fail
 refine (slot_new 2 w (by omega) (by omega)).mono ?_
 rintro e w1 ⟨p, g, hp, hg, rfl, hs1, hb1⟩
 have HB1 := Aside0.mk hb1
 have HS1 := Aside0.mk hs1
 have HG := Aside0.mk (show ∀ k, some g = some k → w.heap.size ≤ k from fun k hk => by injection hk with hk; omega)
 have HZ1 := Aside0.mk hb1.size
 clear hb1 hs1 hp hg
 go_wp2_with fail
 refine (slot_put p g _ 0 5 1 w1 HS1.out).mono ?_
 rintro e w2 ⟨rfl, hs2, hg2⟩
 have HS2 := Aside0.mk hs2
 have HB2 := Aside0.mk (pw_below_grown HB1.out _ HZ1.out hg2 HG.out)
 have HZ2 := Aside0.mk HB2.out.size
 clear hs2 hg2
 have e2 : (putR (List.replicate 2 zeroO) 0 5 1) = (0, [⟨5, 1, true, 1⟩, zeroO]) := rfl
 rw [e2] at HS2 ⊢
 clear e2
 go_wp2_with fail
 refine (slot_put p g _ 0 6 2 w2 HS2.out).mono ?_
 rintro e w3 ⟨rfl, hs3, hg3⟩
 have HS3 := Aside0.mk hs3
 have HB3 := Aside0.mk (pw_below_grown HB2.out _ HZ2.out hg3 HG.out)
 have HZ3 := Aside0.mk HB3.out.size
 clear hs3 hg3
 have e2 : (putR [⟨5, 1, true, 1⟩, zeroO] 0 6 2) = (7, [⟨5, 1, true, 1⟩, zeroO]) := rfl
 rw [e2] at HS3 ⊢
 clear e2
 go_wp2_with fail
 refine (slot_take p g _ 0 1 w3 HS3.out).mono ?_
 rintro e w4 ⟨rfl, hs4, hg4⟩
 have HS4 := Aside0.mk hs4
 have HB4 := Aside0.mk (pw_below_grown HB3.out _ HZ3.out hg4 HG.out)
 have HZ4 := Aside0.mk HB4.out.size
 clear hs4 hg4
 have e2 : (takeR [⟨5, 1, true, 1⟩, zeroO] 0 1) = ((5, 1, true), [⟨0, 0, false, 2⟩, zeroO]) := rfl
 rw [e2] at HS4 ⊢
 clear e2
 go_wp2_with fail
 have hba := (Below.refl w4.heap.size w4).alloc (Nat.le_refl _) (.cells #[.int .u64 5, .int .i64 1] 33)
 refine (slot_take p g _ 0 1 _ (HS4.out.below hba)).mono ?_
 rintro e w5 ⟨rfl, hs5, hg5⟩
 have hgl := HS4.out.lt.2
 have hx := (hg5.block w4.heap.size (by simp) (by intro hh; injection hh with hh; omega)).trans (alloc_at w4 (.cells #[.int .u64 5, .int .i64 1] 33))
 have hbb := (Below.refl w5.heap.size w5).alloc (Nat.le_refl _) (.cells #[.int .u64 0, .int .i64 0] 33)
 have kx1 : (w5.alloc (.cells #[.int .u64 0, .int .i64 0] 33)).cell? ⟨w4.heap.size, 1, none⟩ = some (.int .i64 1) := pw_cell_below hbb (cell_row hx 1)
 have HS5 := Aside0.mk (hs5.below hbb)
 have HB5 := Aside0.mk (below_step (pw_below_grown (below_step HB4.out hba) _ (below_step HB4.out hba).size hg5 HG.out) hbb)
 clear hs5 hg5 hba hbb hx hgl
 have e2 : (takeR [⟨0, 0, false, 2⟩, zeroO] 0 1) = ((0, 0, false), [⟨0, 0, false, 2⟩, zeroO]) := rfl
 rw [e2] at HS5 ⊢
 clear e2
 go_wp2_with (first | (go_at_call 24; (refine (slot_threads p g _ _ HS5.out).mono ?_); rintro e w6 ⟨rfl, rfl⟩))
 go_ret
 exact ⟨rfl, HB5.out⟩
end Go.Proofs.Ytfhapffjnafkbaa.V
end
