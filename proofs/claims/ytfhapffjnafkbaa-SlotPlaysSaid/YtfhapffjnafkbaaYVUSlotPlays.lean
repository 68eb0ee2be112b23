-- a text of this work, without what this claim doesn't use (wip/shake.py)
import Derived.Test.YtfhapffjnafkbaaYVSlot5
import Derived.BigRegion
import Derived.BigQuiet
import Derived.Deep.QuietTactic
import Derived.Deep.DeepCutAuto
import Derived.Deep.CutBlock
import Derived.Deep.RegionWith
import Derived.Test.YtfhapffjnafkbaaYWMore
import Derived.SizedLaws
import Derived.ChangeSlices
import Derived.WalkKit
import Derived.ProofKit
import Derived.OpenShut
import Derived.ShutString
import Derived.ChangeOld
import Derived.Below
import Derived.Deep.Slices
section
set_option linter.unusedVariables false
set_option linter.unusedSimpArgs false
namespace Go.Proofs.Ytfhapffjnafkbaa.V
open Go.RowKit Go.Proofs.YtfhapffjnafkbaaW.PrintWords Go.Proofs.YtfhapffjnafkbaaW.PrintLast Go.Proofs.YtfhapffjnafkbaaW.PrintMore
def us (vs : List Int) : List Value := vs.map fun v => .int .u64 v
def bs (ls : List Bool) : List Value := ls.map fun b => .bool b
structure StH (w wr : World) (p g vb lb n : Nat) (o : One) (vs : List Int) (ls : List Bool) : Prop where
  sl : SlotsAt wr p g [o]
  v : wr.heap[vb]? = some (.cells (us vs).toArray 27 (0, 0))
  l : wr.heap[lb]? = some (.cells (bs ls).toArray 4 (0, 0))
  vl : vs.length = n
  ll : ls.length = n
  ne : p ≠ vb ∧ p ≠ lb ∧ g ≠ vb ∧ g ≠ lb ∧ vb ≠ lb
  old : w.heap.size ≤ p ∧ w.heap.size ≤ g ∧ w.heap.size ≤ vb ∧ w.heap.size ≤ lb
  bel : Below w.heap.size w wr
namespace StH
variable {w wr w2 : World} {p g vb lb n : Nat} {o o2 : One} {vs : List Int} {ls : List Bool}
theorem below (h : StH w wr p g vb lb n o vs ls) (hb : Below wr.heap.size wr w2) : StH w w2 p g vb lb n o vs ls :=
 ⟨h.sl.below hb, (hb.block _ (Array.getElem?_eq_some_iff.1 h.v).1).trans h.v, (hb.block _ (Array.getElem?_eq_some_iff.1 h.l).1).trans h.l, h.vl, h.ll, h.ne, h.old, below_step h.bel hb⟩
theorem grown (h : StH w wr p g vb lb n o vs ls) (hs : SlotsAt w2 p g [o2]) (hg : wr.grownBy w2 (some g)) : StH w w2 p g vb lb n o2 vs ls :=
 ⟨hs, (hg.block _ (Array.getElem?_eq_some_iff.1 h.v).1 (by intro e; injection e with e; exact h.ne.2.2.1 e.symm)).trans h.v, (hg.block _ (Array.getElem?_eq_some_iff.1 h.l).1 (by intro e; injection e with e; exact h.ne.2.2.2.1 e.symm)).trans h.l, h.vl, h.ll, h.ne, h.old,
  pw_below_grown h.bel _ h.bel.size hg (fun k hk => by injection hk with hk; have := h.old; omega)⟩
end StH
end Go.Proofs.Ytfhapffjnafkbaa.V
end
section
set_option linter.unusedVariables false
set_option linter.unusedSimpArgs false
namespace Go.Proofs.Ytfhapffjnafkbaa.V
open Go.RowKit Go.Proofs.YtfhapffjnafkbaaW.PrintWords Go.Proofs.YtfhapffjnafkbaaW.PrintLast Go.Proofs.YtfhapffjnafkbaaW.PrintMore
def encR (o : One) : List Value := [.bool o.full, .int .u64 o.key, .int .i64 o.id, .int .u64 o.ver]
def encRs (L : List One) : List Value := L.flatMap encR
theorem encRs_at (L : List One) (t j : Nat) (o : One) (h : L[t]? = some o) (hj : j < 4) : (encRs L)[t * 4 + j]? = (encR o)[j]? := by
 induction L generalizing t with
 | nil => simp at h
 | cons a r ih =>
  cases t with
  | zero =>
   obtain rfl : a = o := by simpa using h
   show (encR a ++ encRs r)[0 * 4 + j]? = _
   rw [List.getElem?_append_left (by simp [encR]; omega)]
   simp
  | succ t =>
   show (encR a ++ encRs r)[(t + 1) * 4 + j]? = _
   rw [List.getElem?_append_right (by simp [encR]; omega), show (t + 1) * 4 + j - (encR a).length = t * 4 + j by simp [encR]; omega]
   exact ih t (by simpa using h)
theorem encRs_set (L : List One) : ∀ (t : Nat), t < L.length → ∀ (k i : Int) (f : Bool) (v : Int),
 ((((encRs L).set (t * 4) (.bool f)).set (t * 4 + 1) (.int .u64 k)).set (t * 4 + 2) (.int .i64 i)).set (t * 4 + 3) (.int .u64 v) = encRs (L.set t ⟨k, i, f, v⟩) := by
 induction L with
 | nil => intro t h; simp at h
 | cons a r ih =>
  intro t h k i f v
  cases t with
  | zero => rfl
  | succ t =>
   have := ih t (by simpa using h) k i f v
   show ((((encR a ++ encRs r).set ((t + 1) * 4) _).set ((t + 1) * 4 + 1) _).set ((t + 1) * 4 + 2) _).set ((t + 1) * 4 + 3) _ = encR a ++ encRs (r.set t _)
   rw [← this, show (t + 1) * 4 = t * 4 + 4 by omega, show t * 4 + 4 + 1 = t * 4 + 1 + 4 by omega, show t * 4 + 4 + 2 = t * 4 + 2 + 4 by omega, show t * 4 + 4 + 3 = t * 4 + 3 + 4 by omega]
   simp only [encR, List.cons_append, List.nil_append, List.set_cons_succ]
theorem made_refs (n : Nat) (h0 : 1 ≤ n) (h1 : n ≤ 8) : madeCells #[.bool false, .int .u64 0, .int .i64 0, .int .u64 0] (n * 4) = (encRs (List.replicate n zeroO)).toArray := by
 have : n = 1 ∨ n = 2 ∨ n = 3 ∨ n = 4 ∨ n = 5 ∨ n = 6 ∨ n = 7 ∨ n = 8 := by omega
 rcases this with rfl | rfl | rfl | rfl | rfl | rfl | rfl | rfl <;> (apply Array.ext'; simp [madeCells, Array.toList_map, Array.toList_range, List.range, List.range.loop, encRs, encR, zeroO, List.replicate])
theorem infoRef : (Try.prog.info? 59).map (fun i => (i.zero, i.size, i.bytes)) = some (some (.agg #[.bool false, .int .u64 0, .int .i64 0, .int .u64 0]), 4, 32) := by kernel_rfl
theorem make_refs (n : Nat) (h0 : 1 ≤ n) (h1 : n ≤ 8) (W : World) : (Instr.makeSlice 55 (.int .i64 (n : Int)) (.int .i64 (n : Int))).run Try.prog W = .ok (.slice (some ⟨W.heap.size, 0, none⟩) n n) (W.alloc (.cells (encRs (List.replicate n zeroO)).toArray 59)) := by
 obtain ⟨i0, hi, hzz⟩ := Option.map_eq_some_iff.1 infoRef
 simp only [Prod.mk.injEq] at hzz
 obtain ⟨hz0, hz1, hz2⟩ := hzz
 have hr := run_make (P := Try.prog) W 55 59 i0 _ Try.underlying55 hi hz0 .i64 .i64 (n : Int) (n : Int) (by omega) (by omega) (by rw [hz2]; omega) (by omega)
 simp only [Int.toNat_natCast, hz1] at hr
 rw [hr]
 show Result.ok _ (W.alloc (.cells (madeCells #[.bool false, .int .u64 0, .int .i64 0, .int .u64 0] (n * 4)) 59)) = _
 rw [made_refs n h0 h1]
structure StP (w wr : World) (p g rb n : Nat) (L : List One) : Prop where
  sl : SlotsAt wr p g L
  r : wr.heap[rb]? = some (.cells (encRs L).toArray 59 (0, 0))
  len : L.length = n
  ne : p ≠ rb ∧ g ≠ rb
  old : w.heap.size ≤ p ∧ w.heap.size ≤ g ∧ w.heap.size ≤ rb
  bel : Below w.heap.size w wr
namespace StP
variable {w wr w2 : World} {p g rb n : Nat} {L L2 : List One}
theorem below (h : StP w wr p g rb n L) (hb : Below wr.heap.size wr w2) : StP w w2 p g rb n L :=
 ⟨h.sl.below hb, (hb.block _ (Array.getElem?_eq_some_iff.1 h.r).1).trans h.r, h.len, h.ne, h.old, below_step h.bel hb⟩
theorem drew (h : StP w wr p g rb n L) : StP w wr.drew p g rb n L := ⟨h.sl, h.r, h.len, h.ne, h.old, below_drew h.bel⟩
theorem drewN (h : StP w wr p g rb n L) (m : Nat) : StP w (wr.drewN m) p g rb n L := ⟨h.sl, h.r, h.len, h.ne, h.old, pw_below_drewN h.bel m⟩
theorem cells (h : StP w wr p g rb n L) {t : Nat} {o : One} (ht : L[t]? = some o) :
 wr.cell? ⟨rb, t * 4, none⟩ = some (.bool o.full) ∧ wr.cell? ⟨rb, t * 4 + 1, none⟩ = some (.int .u64 o.key) ∧ wr.cell? ⟨rb, t * 4 + 2, none⟩ = some (.int .i64 o.id) ∧ wr.cell? ⟨rb, t * 4 + 3, none⟩ = some (.int .u64 o.ver) :=
 ⟨(cell_row h.r _).trans (by rw [List.getElem?_toArray]; exact encRs_at L t 0 o ht (by omega)), (cell_row h.r _).trans (by rw [List.getElem?_toArray]; exact encRs_at L t 1 o ht (by omega)), (cell_row h.r _).trans (by rw [List.getElem?_toArray]; exact encRs_at L t 2 o ht (by omega)), (cell_row h.r _).trans (by rw [List.getElem?_toArray]; exact encRs_at L t 3 o ht (by omega))⟩
theorem free (h : StP w wr p g rb n L) (j : Nat) : wr.frozen? ⟨rb, j, none⟩ = false := frozen_row h.r j
theorem both (h : StP w wr p g rb n L) {t : Nat} (ht : t < L.length) (k i v : Int) (f : Bool) (hs : SlotsAt w2 p g (L.set t ⟨k, i, f, v⟩)) (hg : wr.grownBy w2 (some g)) :
 StP w ((((w2.setCell ⟨rb, t * 4, none⟩ (.bool f)).setCell ⟨rb, t * 4 + 1, none⟩ (.int .u64 k)).setCell ⟨rb, t * 4 + 2, none⟩ (.int .i64 i)).setCell ⟨rb, t * 4 + 3, none⟩ (.int .u64 v)) p g rb n (L.set t ⟨k, i, f, v⟩) := by
 obtain ⟨n1, n2⟩ := h.ne
 have hr := (hg.block rb (Array.getElem?_eq_some_iff.1 h.r).1 (by intro e; injection e with e; exact n2 e.symm)).trans h.r
 refine ⟨(((hs.other n1 n2).other n1 n2).other n1 n2).other n1 n2, ?_, by rw [List.length_set]; exact h.len, h.ne, h.old, ?_⟩
 · rw [setc_at (setc_at (setc_at (setc_at hr)))]
   simp only [List.setIfInBounds_toArray]
   rw [encRs_set L t ht]
 · exact ((((pw_below_grown h.bel _ h.bel.size hg (fun k hk => by injection hk with hk; have := h.old; omega)).setCell h.old.2.2 _).setCell h.old.2.2 _).setCell h.old.2.2 _).setCell h.old.2.2 _
theorem refFirst (h : StP w wr p g rb n L) {t : Nat} (ht : t < L.length) (k i v : Int) (f : Bool)
 (hs : SlotsAt w2 p g (L.set t ⟨k, i, f, v⟩)) (hg : ((((wr.setCell ⟨rb, t * 4, none⟩ (.bool f)).setCell ⟨rb, t * 4 + 1, none⟩ (.int .u64 k)).setCell ⟨rb, t * 4 + 2, none⟩ (.int .i64 i)).setCell ⟨rb, t * 4 + 3, none⟩ (.int .u64 v)).grownBy w2 (some g)) :
 StP w w2 p g rb n (L.set t ⟨k, i, f, v⟩) := by
 obtain ⟨n1, n2⟩ := h.ne
 have hr : ((((wr.setCell ⟨rb, t * 4, none⟩ (.bool f)).setCell ⟨rb, t * 4 + 1, none⟩ (.int .u64 k)).setCell ⟨rb, t * 4 + 2, none⟩ (.int .i64 i)).setCell ⟨rb, t * 4 + 3, none⟩ (.int .u64 v)).heap[rb]? = some (.cells (encRs (L.set t ⟨k, i, f, v⟩)).toArray 59 (0, 0)) := by
  rw [setc_at (setc_at (setc_at (setc_at h.r)))]
  simp only [List.setIfInBounds_toArray]
  rw [encRs_set L t ht]
 have hb := (((h.bel.setCell h.old.2.2 (.bool f) : Below w.heap.size w (wr.setCell ⟨rb, t * 4, none⟩ (.bool f))).setCell (p := ⟨rb, t * 4 + 1, none⟩) h.old.2.2 (.int .u64 k)).setCell (p := ⟨rb, t * 4 + 2, none⟩) h.old.2.2 (.int .i64 i)).setCell (p := ⟨rb, t * 4 + 3, none⟩) h.old.2.2 (.int .u64 v)
 exact ⟨hs, (hg.block rb (Array.getElem?_eq_some_iff.1 hr).1 (by intro e; injection e with e; exact n2 e.symm)).trans hr, by rw [List.length_set]; exact h.len, h.ne, h.old,
  pw_below_grown hb _ hb.size hg (fun k hk => by injection hk with hk; have := h.old; omega)⟩
theorem same (h : StP w wr p g rb n L) (hs : SlotsAt w2 p g L) (hg : wr.grownBy w2 (some g)) : StP w w2 p g rb n L :=
 ⟨hs, (hg.block rb (Array.getElem?_eq_some_iff.1 h.r).1 (by intro e; injection e with e; exact h.ne.2 e.symm)).trans h.r, h.len, h.ne, h.old,
  pw_below_grown h.bel _ h.bel.size hg (fun k hk => by injection hk with hk; have := h.old; omega)⟩
theorem belowB {B : Nat} (h : StP w wr p g rb n L) (hb : Below B wr w2) (hp : p < B) (hg : g < B) (hr : rb < B) (hw : w.heap.size ≤ B) : StP w w2 p g rb n L :=
 ⟨⟨h.sl.1, (hb.block p hp).trans h.sl.2.1, (hb.block g hg).trans h.sl.2.2.1, h.sl.2.2.2⟩, (hb.block rb hr).trans h.r, h.len, h.ne, h.old, hb.os.trans h.bel.os, hb.tape.trans h.bel.tape, hb.output.trans h.bel.output, Nat.le_trans h.bel.size hb.size, fun i hi => (hb.block i (by omega)).trans (h.bel.block i hi)⟩
theorem refSl (h : StP w wr p g rb n L) (t : Nat) (k i v : Int) (f : Bool) : SlotsAt ((((wr.setCell ⟨rb, t * 4, none⟩ (.bool f)).setCell ⟨rb, t * 4 + 1, none⟩ (.int .u64 k)).setCell ⟨rb, t * 4 + 2, none⟩ (.int .i64 i)).setCell ⟨rb, t * 4 + 3, none⟩ (.int .u64 v)).drew p g L := by
 obtain ⟨n1, n2⟩ := h.ne
 exact (((h.sl.other n1 n2).other n1 n2).other n1 n2).other n1 n2
theorem refFirstD (h : StP w wr p g rb n L) {t : Nat} (ht : t < L.length) (k i v : Int) (f : Bool)
 (hs : SlotsAt w2 p g (L.set t ⟨k, i, f, v⟩)) (hg : ((((wr.setCell ⟨rb, t * 4, none⟩ (.bool f)).setCell ⟨rb, t * 4 + 1, none⟩ (.int .u64 k)).setCell ⟨rb, t * 4 + 2, none⟩ (.int .i64 i)).setCell ⟨rb, t * 4 + 3, none⟩ (.int .u64 v)).drew.grownBy w2 (some g)) :
 StP w w2 p g rb n (L.set t ⟨k, i, f, v⟩) := h.refFirst ht k i v f hs ⟨hg.os, hg.tape, hg.output, hg.size, hg.block⟩
end StP
theorem getR_at {L : List One} {m : Nat} {o : One} (h : L[m]? = some o) : getR L (m : Int) = o := by
 unfold getR slotAt
 rw [if_pos (by omega), Int.toNat_natCast, h]
 rfl
end Go.Proofs.Ytfhapffjnafkbaa.V
end
section
set_option linter.unusedVariables false
set_option linter.unusedSimpArgs false
namespace Go.Proofs.Ytfhapffjnafkbaa.V
open Go.RowKit Go.Proofs.YtfhapffjnafkbaaW.PrintWords Go.Proofs.YtfhapffjnafkbaaW.PrintLast Go.Proofs.YtfhapffjnafkbaaW.PrintMore
def LastP (L : List One) (id : Int) (m : Nat) (a : Int) : Prop :=
  (a = -1 ∧ ∀ j o, m ≤ j → L[j]? = some o → hasO id o = false) ∨
  (∃ k o, a = ((k : Nat) : Int) ∧ m ≤ k ∧ L[k]? = some o ∧ hasO id o = true ∧ ∀ j o', m ≤ j → j < k → L[j]? = some o' → hasO id o' = false)
theorem lastP_start (L : List One) (id : Int) (n : Nat) (h : L.length ≤ n) : LastP L id n (-1) :=
 .inl ⟨rfl, fun j o hj ho => by rw [List.getElem?_eq_none (by omega)] at ho; cases ho⟩
theorem lastP_yes {L : List One} {id : Int} {m : Nat} {o : One} (ho : L[m]? = some o) (h : hasO id o = true) : LastP L id m (m : Int) :=
 .inr ⟨m, o, rfl, Nat.le_refl _, ho, h, fun j _ h1 h2 => by omega⟩
theorem lastP_no {L : List One} {id : Int} {m : Nat} {o : One} {a : Int} (hl : LastP L id (m + 1) a) (ho : L[m]? = some o) (h : hasO id o = false) : LastP L id m a := by
 rcases hl with ⟨rfl, hn⟩ | ⟨k, o1, rfl, hk, h1, h2, hn⟩
 · refine .inl ⟨rfl, fun j o2 hj h2 => ?_⟩
   by_cases he : j = m
   · subst he
     rw [ho] at h2
     cases h2
     exact h
   · exact hn j o2 (by omega) h2
 · refine .inr ⟨k, o1, rfl, by omega, h1, h2, fun j o2 hj hjk h3 => ?_⟩
   by_cases he : j = m
   · subst he
     rw [ho] at h3
     cases h3
     exact h
   · exact hn j o2 (by omega) hjk h3
theorem lastP_end {L : List One} {id : Int} {a : Int} (h : LastP L id 0 a) :
 (a = -1 ∧ fstO L id = -1) ∨ ∃ (k : Nat) (o : One), a = (k : Int) ∧ L[k]? = some o ∧ fstO L id = (k : Int) := by
 rcases h with ⟨rfl, hn⟩ | ⟨k, o, rfl, hk, h1, h2, hn⟩
 · refine .inl ⟨rfl, ?_⟩
   rcases fstO_neg (L := L) (id := id) with h | ⟨k, o, h1, h2, h3⟩
   · exact h
   · have := hn k o (by omega) h1
     rw [this] at h3
     cases h3
 · refine .inr ⟨k, o, rfl, h1, fstO_at h1 ?_ h2⟩
   rcases Nat.lt_or_ge (L.findIdx (hasO id)) k with h3 | h3
   · have h4 := (List.getElem?_eq_some_iff.1 h1).1
     have h5 : L.findIdx (hasO id) < L.length := by omega
     have h6 := hn _ _ (Nat.zero_le _) h3 (List.getElem?_eq_getElem h5)
     have h7 : hasO id L[L.findIdx (hasO id)] = true := List.findIdx_getElem (w := h5)
     rw [h7] at h6
     cases h6
   · exact h3
theorem StP.kept {w wr w2 : World} {p g rb n : Nat} {L : List One} (h : StP w wr p g rb n L) (hg : wr.grownBy w2 (some g)) : w2.heap[rb]? = some (.cells (encRs L).toArray 59 (0, 0)) :=
 (hg.block rb (Array.getElem?_eq_some_iff.1 h.r).1 (by intro e; injection e with e; exact h.ne.2 e.symm)).trans h.r
theorem row_cells {wr : World} {rb : Nat} {L : List One} (h : wr.heap[rb]? = some (.cells (encRs L).toArray 59 (0, 0))) {t : Nat} {o : One} (ht : L[t]? = some o) :
 wr.cell? ⟨rb, t * 4, none⟩ = some (.bool o.full) ∧ wr.cell? ⟨rb, t * 4 + 1, none⟩ = some (.int .u64 o.key) ∧ wr.cell? ⟨rb, t * 4 + 2, none⟩ = some (.int .i64 o.id) ∧ wr.cell? ⟨rb, t * 4 + 3, none⟩ = some (.int .u64 o.ver) :=
 ⟨(cell_row h _).trans (by rw [List.getElem?_toArray]; exact encRs_at L t 0 o ht (by omega)), (cell_row h _).trans (by rw [List.getElem?_toArray]; exact encRs_at L t 1 o ht (by omega)), (cell_row h _).trans (by rw [List.getElem?_toArray]; exact encRs_at L t 2 o ht (by omega)), (cell_row h _).trans (by rw [List.getElem?_toArray]; exact encRs_at L t 3 o ht (by omega))⟩
theorem take_out {L : List One} {t ver : Int} (h : t < 0 ∨ (L.length : Int) ≤ t) : takeR L t ver = ((0, 0, false), L) := by
 have : slotAt L t = none := by
  unfold slotAt
  by_cases h0 : 0 ≤ t
  · rw [if_pos h0, List.getElem?_eq_none (by omega)]
  · rw [if_neg h0]
 unfold takeR
 rw [this]
theorem take_free {L : List One} {t ver : Int} {o : One} (h : slotAt L t = some o) (hf : o.full = false) : takeR L t ver = ((0, 0, false), L) := by
 unfold takeR
 rw [h]
 simp [hf]
theorem take_unlike {L : List One} {t ver : Int} {o : One} (h : slotAt L t = some o) (hv : o.ver ≠ ver) : takeR L t ver = ((0, 0, false), L) := by
 unfold takeR
 rw [h]
 simp [hv]
theorem take_yes {L : List One} {t : Int} {o : One} (h : slotAt L t = some o) (hf : o.full = true) : takeR L t o.ver = ((o.key, o.id, true), L.set t.toNat ⟨0, 0, false, IntKind.u64.wrap (o.ver + 1)⟩) := by
 unfold takeR
 rw [h]
 simp [hf]
end Go.Proofs.Ytfhapffjnafkbaa.V
end
section
set_option linter.unusedVariables false
set_option linter.unusedSimpArgs false
namespace Go.Proofs.Ytfhapffjnafkbaa.V
open Go.RowKit Go.Proofs.YtfhapffjnafkbaaW.PrintWords Go.Proofs.YtfhapffjnafkbaaW.PrintLast Go.Proofs.YtfhapffjnafkbaaW.PrintMore
theorem cell_same {w w2 : World} {b i : Nat} (h : w2.heap[b]? = w.heap[b]?) : w2.cell? ⟨b, i, none⟩ = w.cell? ⟨b, i, none⟩ := by
 unfold World.cell?
 simp only [h]
theorem op_kept {wr w3 : World} {c : Obj} {g i : Nat} {v : Value} (hg : (wr.alloc c).grownBy w3 (some g)) (hl : g < wr.heap.size) (hc : (wr.alloc c).cell? ⟨wr.heap.size, i, none⟩ = some v) (c2 : Obj) : (w3.alloc c2).cell? ⟨wr.heap.size, i, none⟩ = some v := by
 have h1 : wr.heap.size < (wr.alloc c).heap.size := World.block_lt_of_cell? (wr.alloc c) ⟨wr.heap.size, i, none⟩ hc
 have h2 := hg.block wr.heap.size h1 (by intro e; injection e with e; omega)
 have h3 : wr.heap.size < w3.heap.size := Nat.lt_of_lt_of_le h1 hg.size
 have h4 := ((Below.refl w3.heap.size w3).alloc (Nat.le_refl _) c2).block wr.heap.size h3
 exact (cell_same (h4.trans h2)).trans hc
theorem StP.lateN {w wr w4 : World} {p g rb n : Nat} {L : List One} (h : StP w wr p g rb n L) (m : Nat) {t : Nat} (ht : t < L.length) (k i v : Int) (f : Bool) (hs : SlotsAt w4 p g (L.set t ⟨k, i, f, v⟩))
 (hr : w4.heap[rb]? = some (.cells (encRs L).toArray 59 (0, 0))) (hb : Below w.heap.size w w4) :
 StP w (((((w4.drewN m).setCell ⟨rb, t * 4, none⟩ (.bool f)).setCell ⟨rb, t * 4 + 1, none⟩ (.int .u64 k)).setCell ⟨rb, t * 4 + 2, none⟩ (.int .i64 i)).setCell ⟨rb, t * 4 + 3, none⟩ (.int .u64 v)) p g rb n (L.set t ⟨k, i, f, v⟩) := by
 obtain ⟨n1, n2⟩ := h.ne
 have hs' : SlotsAt (w4.drewN m) p g (L.set t ⟨k, i, f, v⟩) := hs
 have hr' : (w4.drewN m).heap[rb]? = some (.cells (encRs L).toArray 59 (0, 0)) := hr
 have hb' : Below w.heap.size w (w4.drewN m) := pw_below_drewN hb m
 refine ⟨(((hs'.other n1 n2).other n1 n2).other n1 n2).other n1 n2, ?_, by rw [List.length_set]; exact h.len, h.ne, h.old, ?_⟩
 · rw [setc_at (setc_at (setc_at (setc_at hr')))]
   simp only [List.setIfInBounds_toArray]
   rw [encRs_set L t ht]
 · exact (((hb'.setCell h.old.2.2 _).setCell h.old.2.2 _).setCell h.old.2.2 _).setCell h.old.2.2 _
theorem StP.grown {w wr w3 : World} {p g rb n : Nat} {L : List One} (h : StP w wr p g rb n L) (hg : wr.grownBy w3 (some g)) (c : Obj) : Below w.heap.size w (w3.alloc c) ∧ (w3.alloc c).heap[rb]? = some (.cells (encRs L).toArray 59 (0, 0)) := by
 have h1 := (Below.refl w3.heap.size w3).alloc (Nat.le_refl _) c
 have h2 := pw_below_grown h.bel _ h.bel.size hg (fun k hk => by injection hk with hk; have := h.old; omega)
 have h3 := h.kept hg
 exact ⟨below_step h2 h1, (h1.block rb (Array.getElem?_eq_some_iff.1 h3).1).trans h3⟩
end Go.Proofs.Ytfhapffjnafkbaa.V
end
section
set_option linter.unusedVariables false
set_option linter.unusedSimpArgs false
namespace Go.Proofs.Ytfhapffjnafkbaa.V
open Go.RowKit Go.Proofs.YtfhapffjnafkbaaW.PrintWords Go.Proofs.YtfhapffjnafkbaaW.PrintLast Go.Proofs.YtfhapffjnafkbaaW.PrintMore
theorem put_outA {L : List One} {t k i : Int} (h : t < 0 ∨ (L.length : Int) ≤ t) : putR L t k i = (1, L) := by
 unfold putR slotAt
 rcases h with h | h
 · rw [if_neg (by omega)]
 · by_cases h0 : 0 ≤ t
   · rw [if_pos h0, List.getElem?_eq_none (by omega)]
   · rw [if_neg h0]
end Go.Proofs.Ytfhapffjnafkbaa.V
end
section
set_option linter.unusedVariables false
set_option linter.unusedSimpArgs false
namespace Go.Proofs.Ytfhapffjnafkbaa.V
open Go.RowKit Go.Proofs.YtfhapffjnafkbaaW.PrintWords Go.Proofs.YtfhapffjnafkbaaW.PrintLast Go.Proofs.YtfhapffjnafkbaaW.PrintMore
theorem same_loop (l : List E) (hl : l.length < 1000000000) : ∀ (d k i : Nat), l.length - i = d → i ≤ l.length → d < k → vergerref5_Same.l0 k l l (i : Int) = some true := by
 intro d
 induction d with
 | zero =>
  intro k i hd hi hk
  obtain ⟨k, rfl, _⟩ := succ_of hk
  simp only [vergerref5_Same.l0]
  rw [if_neg (by omega)]
 | succ d ih =>
  intro k i hd hi hk
  obtain ⟨k, rfl, hk'⟩ := succ_of hk
  have hz : (i : Int) < (l.length : Int) := by omega
  have h0 : (0 : Int) ≤ (i : Int) := by omega
  simp only [vergerref5_Same.l0, if_pos hz, if_pos h0, wrap_nat (show i ≤ 4611686018427387904 by omega)]
  rw [if_neg (by simp)]
  exact ih k (i + 1) (by omega) (by omega) (by omega)
theorem same_told (k : Nat) (l : List E) (hl : l.length < 1000000000) (hk : l.length < k) : vergerref5_Same.f k l l = some true := by
 unfold vergerref5_Same.f
 rw [if_pos rfl]
 exact same_loop l hl l.length k 0 (by omega) (by omega) hk
end Go.Proofs.Ytfhapffjnafkbaa.V
end
section
set_option linter.unusedVariables false
set_option linter.unusedSimpArgs false
namespace Go.Proofs.Ytfhapffjnafkbaa.V
open Go.RowKit Go.Proofs.YtfhapffjnafkbaaW.PrintWords Go.Proofs.YtfhapffjnafkbaaW.PrintLast Go.Proofs.YtfhapffjnafkbaaW.PrintMore
attribute [local go_sem high] eqA33
set_option maxRecDepth 100000 in
set_option maxHeartbeats 8000000 in
theorem slotPlays_walk (a : Int) (A : Option Addr) (c : Nat) (l : List S57) (w : World) (hr : Kd.C k57 w A l.length l) (hc : l.length ≤ c) (hlen : l.length ≤ 9223372036854775807) :
 Calls Try.prog 7 #[.int .i64 a, .slice A l.length c] w fun e w' => e = .returned (.bool true) ∧ Below w.heap.size w w' := by
 have HR := Aside0.mk hr
 clear hr
 by_cases hbad : a < 1 ∨ 8 < a
 · have HB := Aside0.mk hbad
   by_cases h8 : 8 < a
   · have d8 : decide (8 < a) = true := decide_eq_true h8
     clear hbad h8
     go_enter Try.func7, Try.ntmps7
     go_wp2_with (first | (go_at_call 13; (refine (slot_new_bad a _ HB.out).mono ?_); rintro e w1 ⟨rfl, rfl⟩) | (go_at_call 17; (refine (slots_awake _).mono ?_); rintro e w2 ⟨rfl, hb2⟩; have HB2 := Aside0.mk hb2; clear hb2))
     go_ret
     exact ⟨rfl, HB2.out⟩
   · have d8 : decide (8 < a) = false := decide_eq_false h8
     have d1 : decide (a < 1) = true := decide_eq_true (by omega)
     clear hbad h8
     go_enter Try.func7, Try.ntmps7
     go_wp2_with (first | (go_at_call 13; (refine (slot_new_bad a _ HB.out).mono ?_); rintro e w1 ⟨rfl, rfl⟩) | (go_at_call 17; (refine (slots_awake _).mono ?_); rintro e w2 ⟨rfl, hb2⟩; have HB2 := Aside0.mk hb2; clear hb2))
     go_ret
     exact ⟨rfl, HB2.out⟩
 · obtain ⟨n, rfl⟩ : ∃ n : Nat, a = (n : Int) := ⟨a.toNat, by omega⟩
   have hn8 : n ≤ 8 := by omega
   have HN := Aside0.mk (show 1 ≤ n ∧ n ≤ 8 by omega)
   have d8 : decide (8 < (n : Int)) = false := decide_eq_false (by omega)
   have d1 : decide ((n : Int) < 1) = false := decide_eq_false (by omega)
   clear hbad
   go_enter Try.func7, Try.ntmps7
   go_wp2_with fail
   refine (slot_new n w HN.out.1 HN.out.2).mono ?_
   rintro e w1 ⟨p, g, hp, hg, rfl, hs1, hb1⟩
   have hm := make_refs n HN.out.1 HN.out.2 w1
   have hlt := hs1.lt
   have ha := (Below.refl w1.heap.size w1).alloc (Nat.le_refl _) (.cells (encRs (List.replicate n zeroO)).toArray 59)
   have HS1 := Aside0.mk hs1
   have HLN := Aside0.mk (show (List.replicate n zeroO).length = n by simp)
   have HST : Aside0 (StP w (w1.alloc (.cells (encRs (List.replicate n zeroO)).toArray 59)) p g w1.heap.size n (List.replicate n zeroO)) := ⟨{
    sl := hs1.below ha
    r := alloc_at w1 _
    len := by simp
    ne := by omega
    old := by have := hb1.size; omega
    bel := below_step hb1 ha }⟩
   have HPG := Aside0.mk (show p < w1.heap.size ∧ g < w1.heap.size ∧ w.heap.size ≤ w1.heap.size from ⟨hlt.1, hlt.2, hb1.size⟩)
   clear hs1 hb1 hlt ha hp hg
   go_wp2_with (first | (go_at_call 24; (refine (slot_threads p g _ _ HS1.out).mono ?_); rintro e w2 ⟨rfl, rfl⟩; rw [HLN.out]))
   go_loopw [10] (fun i wr => ∃ (k : Nat) (L : List One), i = .int .i64 k ∧ k ≤ 60 ∧ k ≤ l.length ∧ Aside0 (StP w wr p g w1.heap.size n L)) (fun i _ => 60 - (intOf i).toNat)
   case atStart => exact ⟨0, _, rfl, by omega, by omega, HST⟩
   case round =>
    clear HST hm HS1 HLN
    obtain ⟨k, L, rfl, hk, hkl, HS⟩ := hrel
    by_cases h1 : k < l.length ∧ k < 60
    · obtain ⟨hk1, hk2⟩ := h1
      obtain ⟨ad, e1, hx0, hx1, hx2, hx3, hx4⟩ := at_T57 HR.out (k : Int) (by omega) (by omega)
      cases e1
      replace hx0 := (HS.out.bel.cell (World.block_lt_of_cell? w _ hx0)).trans hx0
      replace hx1 := (HS.out.bel.cell (World.block_lt_of_cell? w _ hx1)).trans hx1
      replace hx2 := (HS.out.bel.cell (World.block_lt_of_cell? w _ hx2)).trans hx2
      replace hx3 := (HS.out.bel.cell (World.block_lt_of_cell? w _ hx3)).trans hx3
      replace hx4 := (HS.out.bel.cell (World.block_lt_of_cell? w _ hx4)).trans hx4
      rw [Int.toNat_natCast] at hx0 hx1 hx2 hx3 hx4
      generalize rd_T57 l (k : Int) = x at hx0 hx1 hx2 hx3 hx4
      obtain ⟨K, T, V, ⟨ek, ei⟩⟩ := x
      simp only at hx0 hx1 hx2 hx3 hx4
      have HSA := Aside0.mk (HS.out.below ((Below.refl wr.heap.size wr).alloc (Nat.le_refl _) (.cells #[.int .i64 K, .int .i64 T, .int .u64 V, .int .u64 ek, .int .i64 ei] 57)))
      go_upto_region 12 with fail
      go_cut [12] (fun s12 wx => ∃ b : Bool, s12 = .bool b ∧ Aside0 (b = decide (0 ≤ T ∧ T < (n : Int))) ∧ Aside0 (wx = wr.alloc (.cells #[.int .i64 K, .int .i64 T, .int .u64 V, .int .u64 ek, .int .i64 ei] 57)))
      case first =>
       by_cases hT0 : T < 0
       · have dT : decide (0 ≤ T) = false := decide_eq_false (by omega)
         have HDI := Aside0.mk (show false = decide (0 ≤ T ∧ T < (n : Int)) from (decide_eq_false (by omega)).symm)
         clear hT0
         as_aux_lemma =>
          go_wp2_with fail
          go_meet
          exact ⟨_, rfl, HDI, ⟨rfl⟩⟩
       · have dT : decide (0 ≤ T) = true := decide_eq_true (by omega)
         by_cases hTn : (n : Int) ≤ T
         · have dT2 : decide (T < (n : Int)) = false := decide_eq_false (by omega)
           have HDI := Aside0.mk (show false = decide (0 ≤ T ∧ T < (n : Int)) from (decide_eq_false (by omega)).symm)
           clear hT0 hTn
           as_aux_lemma =>
            go_wp2_with fail
            go_meet
            exact ⟨_, rfl, HDI, ⟨rfl⟩⟩
         · have dT2 : decide (T < (n : Int)) = true := decide_eq_true (by omega)
           have HDI := Aside0.mk (show true = decide (0 ≤ T ∧ T < (n : Int)) from (decide_eq_true (by omega)).symm)
           clear hT0 hTn
           as_aux_lemma =>
            go_wp2_with fail
            go_meet
            exact ⟨_, rfl, HDI, ⟨rfl⟩⟩
      case rest =>
       obtain ⟨b, rfl, HDI, HWC⟩ := hcut
       obtain rfl := HWC.out
       clear HWC
       go_upto_block 2 with fail
       go_cut [12, 13] (fun s12 s13 wx => ∃ L2 : List One, Aside0 (StP w wx p g w1.heap.size n L2))
       case first =>
        by_cases hK0 : K = 0
        · subst hK0
          cases b with
          | true =>
           obtain ⟨hTb0, hTb1⟩ : 0 ≤ T ∧ T < (n : Int) := of_decide_eq_true HDI.out.symm
           have hTL : T.toNat < L.length := by have := HS.out.len; omega
           obtain ⟨o, ho⟩ : ∃ o, L[T.toNat]? = some o := ⟨_, List.getElem?_eq_getElem hTL⟩
           have HTL := Aside0.mk hTL
           have hsl : slotAt L T = some o := by unfold slotAt; rw [if_pos hTb0]; exact ho
           obtain ⟨r0, r1, r2, r3⟩ := HSA.out.cells ho
           have z0 := HSA.out.free (T.toNat * 4)
           have z1 := HSA.out.free (T.toNat * 4 + 1)
           have z2 := HSA.out.free (T.toNat * 4 + 2)
           have z3 := HSA.out.free (T.toNat * 4 + 3)
           clear hTL ho
           cases hf : o.full with
           | true =>
            rw [hf] at r0
            have HE := Aside0.mk (show putR L T ek ei = (7, L) by unfold putR; rw [hsl]; simp [hf])
            clear hsl hf
            as_aux_lemma =>
             go_wp2_with (first | (go_at_call 14; (refine (slot_put p g L T ek _ _ HSA.out.sl).mono ?_); rintro e w3 ⟨rfl, hs3, hg3⟩; rw [HE.out] at hs3 ⊢; have HSI := Aside0.mk (HSA.out.same hs3 hg3); clear hs3 hg3))
             go_wp2_with fail
             go_meet
             exact ⟨_, HSI⟩
           | false =>
            rw [hf] at r0
            have HE := Aside0.mk (show putR L T ek ei = (0, L.set T.toNat ⟨ek, ei, true, IntKind.u64.wrap (o.ver + 1)⟩) by unfold putR; rw [hsl]; simp [hf])
            clear hsl hf
            have hnw : ¬ (w1.heap.size = wr.heap.size) := by have := (Array.getElem?_eq_some_iff.1 HS.out.r).1; omega
            have hnw2 : ¬ (wr.heap.size = w1.heap.size) := fun e => hnw e.symm
            as_aux_lemma =>
             go_wp2
             go_region
             go_wp2_with (first | (go_at_call 14; (refine (slot_put p g L T ek _ _ (HSA.out.refSl T.toNat ek ei (IntKind.u64.wrap (o.ver + 1)) true)).mono ?_); rintro e w3 ⟨rfl, hs3, hg3⟩; rw [HE.out] at hs3 ⊢; have HSI := Aside0.mk (HSA.out.refFirstD HTL.out ek ei (IntKind.u64.wrap (o.ver + 1)) true hs3 hg3); clear hs3 hg3))
             go_wp2_with fail
             go_meet
             exact ⟨_, HSI⟩
          | false =>
           have hI : ¬ (0 ≤ T ∧ T < (n : Int)) := of_decide_eq_false HDI.out.symm
           have HE := Aside0.mk (show putR L T ek ei = (1, L) from put_outA (by have := HS.out.len; omega))
           clear hI
           as_aux_lemma =>
            go_wp2_with (first | (go_at_call 14; (refine (slot_put p g L T ek _ _ HSA.out.sl).mono ?_); rintro e w3 ⟨rfl, hs3, hg3⟩; rw [HE.out] at hs3 ⊢; have HSI := Aside0.mk (HSA.out.same hs3 hg3); clear hs3 hg3))
            go_wp2_with fail
            go_meet
            exact ⟨_, HSI⟩
        · by_cases hK3 : K = 3
          · subst hK3
            have HX4 := Aside0.mk (show (wr.alloc (.cells #[.int .i64 3, .int .i64 T, .int .u64 V, .int .u64 ek, .int .i64 ei] 57)).cell? ⟨wr.heap.size, 4, none⟩ = some (.int .i64 ei) from by simp [World.cell?_alloc_new])
            go_wp2_with fail
            go_loopw [14, 15] (fun a i wr2 => ∃ (m : Nat) (b j : Int), m ≤ n ∧ a = .int .i64 b ∧ i = .int .i64 j ∧ j = (m : Int) - 1 ∧ Aside0 (LastP L ei m b) ∧ Aside0 (wr2.cell? ⟨wr.heap.size, 4, none⟩ = some (.int .i64 ei)) ∧ Aside0 (StP w wr2 p g w1.heap.size n L)) (fun _ i _ => (intOf i + 1).toNat)
            case atStart => exact ⟨n, -1, (n : Int) - 1, Nat.le_refl _, rfl, by go_num, rfl, ⟨lastP_start L ei n (Nat.le_of_eq HS.out.len)⟩, HX4, HSA⟩
            case round =>
             obtain ⟨m, b, j, hm, rfl, rfl, hj, HLP, HX, HS5⟩ := hrel
             by_cases hm0 : m = 0
             · subst hm0
               obtain rfl : j = -1 := by omega
               clear hj
               have hx := HX.out
               rcases lastP_end HLP.out with ⟨rfl, hfst⟩ | ⟨q, o, rfl, ho, hfst⟩
               · have HF := Aside0.mk hfst
                 clear hfst
                 as_aux_lemma =>
                  go_wp2_with (first | (go_at_call 23; (refine (slot_drop_no p g L ei _ HS5.out.sl HF.out).mono ?_); rintro e w3 ⟨rfl, hb3⟩; have HSI := Aside0.mk (HS5.out.below hb3); clear hb3))
                  go_meet
                  exact ⟨_, HSI⟩
               · have HF := Aside0.mk hfst
                 have HO5 := Aside0.mk ho
                 have HQ := Aside0.mk (show q < L.length from (List.getElem?_eq_some_iff.1 ho).1)
                 have hqn : q < n := by have := (List.getElem?_eq_some_iff.1 ho).1; have := HS5.out.len; omega
                 have dq : decide (0 ≤ (q : Int)) = true := decide_eq_true (Int.natCast_nonneg q)
                 clear hfst ho
                 as_aux_lemma =>
                  go_wp2_with (first | (go_at_call 23; (refine (slot_drop_yes p g L ei q o _ HS5.out.sl HF.out HO5.out).mono ?_); rintro e w3 ⟨rfl, hs3, hg3⟩; have HSI := Aside0.mk (HS5.out.both HQ.out 0 0 (IntKind.u64.wrap (o.ver + 1)) false hs3 hg3); obtain ⟨r0, r1, r2, r3⟩ := row_cells (HS5.out.kept hg3) HO5.out; have z0 := frozen_row (HS5.out.kept hg3) (q * 4); have z1 := frozen_row (HS5.out.kept hg3) (q * 4 + 1); have z2 := frozen_row (HS5.out.kept hg3) (q * 4 + 2); have z3 := frozen_row (HS5.out.kept hg3) (q * 4 + 3); clear hs3 hg3))
                  go_meet
                  exact ⟨_, HSI⟩
             · obtain ⟨q, rfl⟩ : ∃ q, m = q + 1 := ⟨m - 1, by omega⟩
               obtain rfl : j = (q : Int) := by omega
               clear hj hm0
               have dq : decide (0 ≤ (q : Int)) = true := decide_eq_true (Int.natCast_nonneg q)
               have hx := HX.out
               obtain ⟨o5, ho5⟩ : ∃ o5, L[q]? = some o5 := ⟨_, List.getElem?_eq_getElem (by rw [HS5.out.len]; omega)⟩
               have HO5 := Aside0.mk ho5
               obtain ⟨q0, q1, q2, q3⟩ := HS5.out.cells ho5
               clear ho5
               cases hf : o5.full with
               | true =>
                rw [hf] at q0
                by_cases hid : o5.id = ei
                · have HH := Aside0.mk (show hasO ei o5 = true by simp [hasO, hf, hid])
                  have did : (o5.id == ei) = true := by simp [hid]
                  have did2 : decide (o5.id = ei) = true := by simp [hid]
                  clear hf hid
                  as_aux_lemma =>
                   go_wp2
                   go_quiet (fail)
                   go_wp2
                   go_roundw
                   case rel => exact ⟨q, (q : Int), (q : Int) - 1, by omega, rfl, by go_num, rfl, ⟨lastP_yes HO5.out HH.out⟩, ⟨HX.out⟩, ⟨HS5.out.drewN _⟩⟩
                   case measure => simp [intOf]
                · have HH := Aside0.mk (show hasO ei o5 = false by simp [hasO, hf, hid])
                  have did : (o5.id == ei) = false := by simp [hid]
                  have did2 : decide (o5.id = ei) = false := by simp [hid]
                  clear hf hid
                  as_aux_lemma =>
                   go_wp2
                   go_quiet (fail)
                   go_wp2
                   go_roundw
                   case rel => exact ⟨q, b, (q : Int) - 1, by omega, rfl, by go_num, rfl, ⟨lastP_no HLP.out HO5.out HH.out⟩, ⟨HX.out⟩, ⟨HS5.out.drewN _⟩⟩
                   case measure => simp [intOf]
               | false =>
                rw [hf] at q0
                have HH := Aside0.mk (show hasO ei o5 = false by simp [hasO, hf])
                clear hf
                as_aux_lemma =>
                 go_wp2
                 go_quiet (fail)
                 go_wp2
                 go_roundw
                 case rel => exact ⟨q, b, (q : Int) - 1, by omega, rfl, by go_num, rfl, ⟨lastP_no HLP.out HO5.out HH.out⟩, ⟨HX.out⟩, ⟨HS5.out.drewN _⟩⟩
                 case measure => simp [intOf]
          · have dK0 : decide (K = 0) = false := decide_eq_false hK0
            have dK3 : decide (K = 3) = false := decide_eq_false hK3
            have eK0 : (K == 0) = false := by simp [hK0]
            have eK3 : (K == 3) = false := by simp [hK3]
            clear hK0 hK3
            have HGL := Aside0.mk (show g < wr.heap.size from HS.out.sl.lt.2)
            have HX1 := Aside0.mk (show (wr.alloc (.cells #[.int .i64 K, .int .i64 T, .int .u64 V, .int .u64 ek, .int .i64 ei] 57)).cell? ⟨wr.heap.size, 1, none⟩ = some (.int .i64 T) from by simp [World.cell?_alloc_new])
            cases b with
            | true =>
             obtain ⟨hTb0, hTb1⟩ : 0 ≤ T ∧ T < (n : Int) := of_decide_eq_true HDI.out.symm
             have hTL : T.toNat < L.length := by have := HS.out.len; omega
             obtain ⟨o, ho⟩ : ∃ o, L[T.toNat]? = some o := ⟨_, List.getElem?_eq_getElem hTL⟩
             have HTL := Aside0.mk hTL
             have HO := Aside0.mk ho
             have hsl : slotAt L T = some o := by unfold slotAt; rw [if_pos hTb0]; exact ho
             obtain ⟨r0, r1, r2, r3⟩ := HSA.out.cells ho
             clear hTL ho
             by_cases hK1 : K = 1
             · subst hK1
               cases hf : o.full with
               | true =>
                rw [hf] at r0
                have HE := Aside0.mk (take_yes hsl hf)
                have HF := Aside0.mk hf
                clear hsl hf
                as_aux_lemma =>
                 go_wp2_with (first | (go_at_call 15; (refine (slot_take p g L T o.ver _ HSA.out.sl).mono ?_); rintro e w3 ⟨rfl, hs3, hg3⟩; rw [HE.out] at hs3 ⊢; have hx1 := op_kept hg3 HGL.out HX1.out (.cells #[.int .u64 o.key, .int .i64 o.id] 33); obtain ⟨hb4, hr4⟩ := HSA.out.grown hg3 (.cells #[.int .u64 o.key, .int .i64 o.id] 33); have HSL := Aside0.mk (SlotsAt.below hs3 ((Below.refl w3.heap.size w3).alloc (Nat.le_refl _) (.cells #[.int .u64 o.key, .int .i64 o.id] 33))); have HR4 := Aside0.mk hr4; have HB4 := Aside0.mk hb4; obtain ⟨s0, s1, s2, s3⟩ := row_cells hr4 HO.out; rw [HF.out] at s0; have z0 := frozen_row hr4 (T.toNat * 4); have z1 := frozen_row hr4 (T.toNat * 4 + 1); have z2 := frozen_row hr4 (T.toNat * 4 + 2); have z3 := frozen_row hr4 (T.toNat * 4 + 3); clear hs3 hg3 hb4 hr4))
                 go_quiet (fail)
                 go_wp2
                 go_region
                 go_wp2_with fail
                 go_meet
                 exact ⟨_, ⟨StP.lateN HSA.out (nq + 1) HTL.out 0 0 (IntKind.u64.wrap (o.ver + 1)) false HSL.out HR4.out HB4.out⟩⟩
               | false =>
                rw [hf] at r0
                have HE := Aside0.mk (take_free (ver := o.ver) hsl hf)
                have HF := Aside0.mk hf
                clear hsl hf
                as_aux_lemma =>
                 go_wp2_with (first | (go_at_call 15; (refine (slot_take p g L T o.ver _ HSA.out.sl).mono ?_); rintro e w3 ⟨rfl, hs3, hg3⟩; rw [HE.out] at hs3 ⊢; have hx1 := op_kept hg3 HGL.out HX1.out (.cells #[.int .u64 0, .int .i64 0] 33); have HS4 := Aside0.mk ((HSA.out.same hs3 hg3).below ((Below.refl w3.heap.size w3).alloc (Nat.le_refl _) (.cells #[.int .u64 0, .int .i64 0] 33))); obtain ⟨s0, s1, s2, s3⟩ := HS4.out.cells HO.out; rw [HF.out] at s0; clear hs3 hg3))
                 go_quiet (fail)
                 go_wp2_with fail
                 go_meet
                 exact ⟨_, ⟨HS4.out.drewN _⟩⟩
             · have dK1 : decide (K = 1) = false := decide_eq_false hK1
               have eK1 : (K == 1) = false := by simp [hK1]
               clear hK1
               cases hf : o.full with
               | true =>
                rw [hf] at r0
                by_cases hv : o.ver = V
                · subst hv
                  have HE := Aside0.mk (take_yes hsl hf)
                  have HF := Aside0.mk hf
                  clear hsl hf
                  as_aux_lemma =>
                   go_wp2_with (first | (go_at_call 15; (refine (slot_take p g L T o.ver _ HSA.out.sl).mono ?_); rintro e w3 ⟨rfl, hs3, hg3⟩; rw [HE.out] at hs3 ⊢; have hx1 := op_kept hg3 HGL.out HX1.out (.cells #[.int .u64 o.key, .int .i64 o.id] 33); obtain ⟨hb4, hr4⟩ := HSA.out.grown hg3 (.cells #[.int .u64 o.key, .int .i64 o.id] 33); have HSL := Aside0.mk (SlotsAt.below hs3 ((Below.refl w3.heap.size w3).alloc (Nat.le_refl _) (.cells #[.int .u64 o.key, .int .i64 o.id] 33))); have HR4 := Aside0.mk hr4; have HB4 := Aside0.mk hb4; obtain ⟨s0, s1, s2, s3⟩ := row_cells hr4 HO.out; rw [HF.out] at s0; have z0 := frozen_row hr4 (T.toNat * 4); have z1 := frozen_row hr4 (T.toNat * 4 + 1); have z2 := frozen_row hr4 (T.toNat * 4 + 2); have z3 := frozen_row hr4 (T.toNat * 4 + 3); clear hs3 hg3 hb4 hr4))
                   go_quiet (fail)
                   go_wp2
                   go_region
                   go_wp2_with fail
                   go_meet
                   exact ⟨_, ⟨StP.lateN HSA.out (nq + 1) HTL.out 0 0 (IntKind.u64.wrap (o.ver + 1)) false HSL.out HR4.out HB4.out⟩⟩
                · have HE := Aside0.mk (take_unlike hsl hv)
                  have HF := Aside0.mk hf
                  have dv : (o.ver == V) = false := by simp [hv]
                  have dv2 : decide (o.ver = V) = false := by simp [hv]
                  clear hsl hf hv
                  as_aux_lemma =>
                   go_wp2_with (first | (go_at_call 15; (refine (slot_take p g L T V _ HSA.out.sl).mono ?_); rintro e w3 ⟨rfl, hs3, hg3⟩; rw [HE.out] at hs3 ⊢; have hx1 := op_kept hg3 HGL.out HX1.out (.cells #[.int .u64 0, .int .i64 0] 33); have HS4 := Aside0.mk ((HSA.out.same hs3 hg3).below ((Below.refl w3.heap.size w3).alloc (Nat.le_refl _) (.cells #[.int .u64 0, .int .i64 0] 33))); obtain ⟨s0, s1, s2, s3⟩ := HS4.out.cells HO.out; rw [HF.out] at s0; clear hs3 hg3))
                   go_quiet (fail)
                   go_wp2_with fail
                   go_meet
                   exact ⟨_, ⟨HS4.out.drewN _⟩⟩
               | false =>
                rw [hf] at r0
                have HE := Aside0.mk (take_free (ver := V) hsl hf)
                have HF := Aside0.mk hf
                clear hsl hf
                as_aux_lemma =>
                 go_wp2_with (first | (go_at_call 15; (refine (slot_take p g L T V _ HSA.out.sl).mono ?_); rintro e w3 ⟨rfl, hs3, hg3⟩; rw [HE.out] at hs3 ⊢; have hx1 := op_kept hg3 HGL.out HX1.out (.cells #[.int .u64 0, .int .i64 0] 33); have HS4 := Aside0.mk ((HSA.out.same hs3 hg3).below ((Below.refl w3.heap.size w3).alloc (Nat.le_refl _) (.cells #[.int .u64 0, .int .i64 0] 33))); obtain ⟨s0, s1, s2, s3⟩ := HS4.out.cells HO.out; rw [HF.out] at s0; clear hs3 hg3))
                 go_quiet (fail)
                 go_wp2_with fail
                 go_meet
                 exact ⟨_, ⟨HS4.out.drewN _⟩⟩
            | false =>
             have hI : ¬ (0 ≤ T ∧ T < (n : Int)) := of_decide_eq_false HDI.out.symm
             have HE := Aside0.mk (take_out (ver := V) (show T < 0 ∨ (L.length : Int) ≤ T by have := HS.out.len; omega))
             clear hI
             by_cases hK1 : K = 1
             · subst hK1
               go_wp2_with (first | (go_at_call 15; (refine (slot_take p g L T V _ HSA.out.sl).mono ?_); rintro e w3 ⟨rfl, hs3, hg3⟩; rw [HE.out] at hs3 ⊢; have hx1 := op_kept hg3 HGL.out HX1.out (.cells #[.int .u64 0, .int .i64 0] 33); have HS4 := Aside0.mk ((HSA.out.same hs3 hg3).below ((Below.refl w3.heap.size w3).alloc (Nat.le_refl _) (.cells #[.int .u64 0, .int .i64 0] 33))); clear hs3 hg3))
               go_quiet (fail)
               go_wp2_with fail
               go_meet
               exact ⟨_, ⟨HS4.out.drewN _⟩⟩
             · have dK1 : decide (K = 1) = false := decide_eq_false hK1
               have eK1 : (K == 1) = false := by simp [hK1]
               clear hK1
               as_aux_lemma =>
                go_wp2_with (first | (go_at_call 15; (refine (slot_take p g L T V _ HSA.out.sl).mono ?_); rintro e w3 ⟨rfl, hs3, hg3⟩; rw [HE.out] at hs3 ⊢; have hx1 := op_kept hg3 HGL.out HX1.out (.cells #[.int .u64 0, .int .i64 0] 33); have HS4 := Aside0.mk ((HSA.out.same hs3 hg3).below ((Below.refl w3.heap.size w3).alloc (Nat.le_refl _) (.cells #[.int .u64 0, .int .i64 0] 33))); clear hs3 hg3))
                go_quiet (fail)
                go_wp2_with fail
                go_meet
                exact ⟨_, ⟨HS4.out.drewN _⟩⟩
       case rest =>
        obtain ⟨L2, HSI⟩ := hcut
        clear HSA HS
        go_wp2_with fail
        go_loopw [20, 21] (fun v i wr2 => ∃ m : Nat, m ≤ n ∧ i = .int .i64 m ∧ Aside0 (Kd.R k33 33 wr2 (w1.heap.size + 1) (fun _ => True) v (allO (L2.take m))) ∧ Aside0 (StP w wr2 p g w1.heap.size n L2)) (fun _ i _ => n - (intOf i).toNat)
        case atStart => exact ⟨0, Nat.zero_le _, rfl, ⟨Kd.R_nil _ _ _ _ _⟩, HSI⟩
        case round =>
         obtain ⟨m, hm, rfl, HRA, HS5⟩ := hrel
         by_cases hlt : m < n
         · obtain ⟨o5, ho5⟩ : ∃ o5, L2[m]? = some o5 := ⟨_, List.getElem?_eq_getElem (by rw [HS5.out.len]; exact hlt)⟩
           have HO5 := Aside0.mk ho5
           have HTK := Aside0.mk (allO_take ho5)
           have hle5 : (allO (L2.take m)).length ≤ 8 := Nat.le_trans (allO_len _) (by rw [List.length_take]; omega)
           clear ho5
           cases hf5 : o5.full with
           | true =>
            have HF5 := Aside0.mk hf5
            rw [hf5, if_pos rfl] at HTK
            clear hf5
            as_aux_lemma =>
             go_wp2_with (first | (go_at_call 16; (refine (slot_get p g L2 (m : Int) _ HS5.out.sl).mono ?_); rintro e w6 ⟨rfl, hb6⟩; rw [getR_at HO5.out, HF5.out]; have HS6 := Aside0.mk ((HS5.out.below hb6).below ((Below.refl w6.heap.size w6).alloc (Nat.le_refl _) (.cells #[.int .u64 o5.key, .int .i64 o5.id] 33))); obtain ⟨q0, q1, q2, q3⟩ := HS6.out.cells HO5.out; rw [HF5.out] at q0; have HRA6 := Aside0.mk (Kd.R_alloc (Kd.R_below HRA.out hb6) (.cells #[.int .u64 o5.key, .int .i64 o5.id] 33)); clear hb6))
             go_quiet (fail)
             go_wp2_with (first | (at_builtin; go_loud (refine Kd.R_append k33 (w0 := ?ww) (w1.heap.size + 1) rfl (.tmp 293) (.tmp 299) 44 33 (.agg #[(.int .u64 0), (.int .i64 0)]) 16 rfl Try.underlying44 info33 rfl (by decide) (by omega) u20 (allO (L2.take m)) (⟨o5.key, o5.id⟩ : E) [.int .u64 o5.key, .int .i64 o5.id] (fun _ => True) (fun _ => False) rfl ?aX ?aP (fun _ hk => hk.elim) ?aF ?aO ?aB ?aS ?aL ?_; (case aB => exact Below.refl _ _); (case aX => simp [Act.eval]); (case aP => exact k33_mkM _ _ _ (⟨o5.key, o5.id⟩ : E)); (case aF => exact fun _ _ => trivial); (case aO => exact Kd.R_drewN HRA6.out _); (case aS => exact Nat.succ_le_of_lt (Array.getElem?_eq_some_iff.1 (HS6.out.drewN _).r).1); (case aL => omega); intro v7 w7 ho7 hb7 hg7 hat7; have HR7 := Aside0.mk ho7; have HS7 := Aside0.mk ((HS6.out.drewN _).belowB hb7 (by have := HPG.out; omega) (by have := HPG.out; omega) (by omega) (by have := HPG.out; omega)); clear ho7 hb7 hg7 hat7)))
             go_roundw
             case rel => exact ⟨m + 1, by omega, by go_num, ⟨by rw [HTK.out]; exact HR7.out⟩, HS7⟩
             case measure => simp [intOf]; omega
           | false =>
            have HF5 := Aside0.mk hf5
            rw [hf5, if_neg (by simp)] at HTK
            clear hf5
            as_aux_lemma =>
             go_wp2_with (first | (go_at_call 16; (refine (slot_get p g L2 (m : Int) _ HS5.out.sl).mono ?_); rintro e w6 ⟨rfl, hb6⟩; rw [getR_at HO5.out, HF5.out]; have HS6 := Aside0.mk ((HS5.out.below hb6).below ((Below.refl w6.heap.size w6).alloc (Nat.le_refl _) (.cells #[.int .u64 o5.key, .int .i64 o5.id] 33))); obtain ⟨q0, q1, q2, q3⟩ := HS6.out.cells HO5.out; rw [HF5.out] at q0; have HRA6 := Aside0.mk (Kd.R_alloc (Kd.R_below HRA.out hb6) (.cells #[.int .u64 o5.key, .int .i64 o5.id] 33)); clear hb6))
             go_quiet (fail)
             go_wp2
             go_roundw
             case rel => exact ⟨m + 1, by omega, by go_num, ⟨by rw [HTK.out]; exact Kd.R_drewN HRA6.out _⟩, ⟨HS6.out.drewN _⟩⟩
             case measure => simp [intOf]; omega
         · have hmn : m = n := by omega
           have HLL := Aside0.mk (show L2.take m = L2 from List.take_of_length_le (by have := HS5.out.len; omega))
           rw [HLL.out] at HRA
           have hl8 : (allO L2).length ≤ 8 := Nat.le_trans (allO_len _) (by have := HS5.out.len; omega)
           clear hmn
           as_aux_lemma =>
            go_wp2_with fail
            refine (slot_all p g L2 _ HS5.out.sl).mono ?_
            rintro e w8 ⟨v8, rfl, hv8, hb8⟩
            have HRA8 := Aside0.mk (Kd.R_below HRA.out hb8)
            have HS8 := Aside0.mk (HS5.out.below hb8)
            have HV8 := Aside0.mk hv8
            clear hv8 hb8
            obtain ⟨A8, c8, e8⟩ := Kd.V_slice HV8.out
            subst e8
            obtain ⟨A9, c9, e9⟩ := Kd.R_slice HRA8.out
            subst e9
            go_wp2_with fail
            refine (vergerref5_Same.calls 100 _ _ (allO L2) _ _ (allO L2) true _ (Kd.V_reads' HV8.out).2.2 (Kd.V_reads' HV8.out).2.1 (Kd.R_reads' HRA8.out).2.2 (Kd.R_reads' HRA8.out).2.1 (same_told 100 _ (by omega) (by omega))).mono ?_
            rintro e w9 ⟨rfl, ⟨nd, rfl⟩⟩
            go_wp2
            go_roundw
            case rel => exact ⟨k + 1, L2, by go_num, by omega, by omega, ⟨HS8.out.drewN _⟩⟩
            case measure => simp [intOf]; omega
    · by_cases hl : k < l.length
      · have h60 : decide ((k : Int) < 60) = false := decide_eq_false (by omega)
        clear h1
        go_wp2_with (first | (go_at_call 17; (refine (slots_awake _).mono ?_); rintro e w3 ⟨rfl, hb3⟩; have HB := Aside0.mk (below_step HS.out.bel hb3); clear hb3))
        go_ret
        exact ⟨rfl, HB.out⟩
      · clear h1
        go_wp2_with (first | (go_at_call 17; (refine (slots_awake _).mono ?_); rintro e w3 ⟨rfl, hb3⟩; have HB := Aside0.mk (below_step HS.out.bel hb3); clear hb3))
        go_ret
        exact ⟨rfl, HB.out⟩
end Go.Proofs.Ytfhapffjnafkbaa.V
end
section
set_option linter.unusedVariables false
set_option linter.unusedSimpArgs false
namespace Go.Proofs.Ytfhapffjnafkbaa.VOpen
open Go.RowKit Go.Proofs.YtfhapffjnafkbaaW.PrintWords Go.Deep Go.ChangeShapes Go.WideShapes
structure Fits {α : Type} (P : Program) (t : TypeId) (d : Kd α) (good : α → Prop) : Prop where
  sz : P.cellsOf t = d.sz
  opens : ∀ {H : Type} {enc : TypeId × Value → H} {w : World} {base : Nat} {spare : Nat → Bool} {held : Bool} {fuel : Nat} {cs : List Value} {x : DataW H × List MemPlace},
    DataW.trod enc P w base spare held fuel t cs = some x → ∃ a, d.K w a cs ∧ good a
theorem fits_int {P : Program} {t : TypeId} {k : IntKind} (ht : P.underlying t = some (.int k)) (hc : P.cellsOf t = 1) : Fits P t (Kd.int k) (fun n => (Lit.int k n).wf = true) where
 sz := hc
 opens := fun h => by
  obtain ⟨n, rfl, _, hw⟩ := DataW.trod_int ht h
  exact ⟨n, rfl, hw⟩
theorem fits_iso {α β : Type} {P : Program} {t : TypeId} {d : Kd α} {good : α → Prop} (f : β → α) (g : α → β) (hfg : ∀ a, f (g a) = a) (h : Fits P t d good) : Fits P t (Kd.iso d f) (fun b => good (f b)) where
 sz := h.sz
 opens := fun hx => by
  obtain ⟨a, hk, hg⟩ := h.opens hx
  exact ⟨g a, by show d.K _ (f (g a)) _; rw [hfg]; exact hk, by rw [hfg]; exact hg⟩
structure FitsRow {α : Type} (P : Program) (fs : List Field) (o : Nat) (d : Kd α) (good : α → Prop) : Prop where
  opens : ∀ {H : Type} {enc : TypeId × Value → H} {w : World} {base : Nat} {spare : Nat → Bool} {held : Bool} {n : Nat} {cs : List Value} {xs : List (DataW H × List MemPlace)},
    cs.length = d.sz → xs.length = fs.length →
    (∀ (i : Nat) (f : Field), fs[i]? = some f → DataW.trod enc P w base spare held n f.type ((cs.drop (f.offset - o)).take (P.cellsOf f.type)) = xs[i]?) → (∀ (i : Nat) (f : Field), fs[i]? = some f → o ≤ f.offset) → ∃ a, d.K w a cs ∧ good a
theorem fitsRow_one {α : Type} {P : Program} {f : Field} {o : Nat} {d : Kd α} {good : α → Prop} (ho : f.offset = o) (h : Fits P f.type d good) : FitsRow P [f] o d good where
 opens := fun {H enc w base spare held n cs xs} hl hx hf _ => by
  match xs, hx with
  | [x], _ =>
   have := hf 0 f rfl
   rw [ho, Nat.sub_self, List.drop_zero, h.sz, List.take_of_length_le (Nat.le_of_eq hl)] at this
   exact h.opens this
theorem fitsRow_cons {α β : Type} {P : Program} {f : Field} {fs : List Field} {o : Nat} {a : Kd α} {b : Kd β} {ga : α → Prop} {gb : β → Prop} (ho : f.offset = o) (hos : ∀ (i : Nat) (f' : Field), fs[i]? = some f' → o + a.sz ≤ f'.offset)
 (h : Fits P f.type a ga) (hs : FitsRow P fs (o + a.sz) b gb) : FitsRow P (f :: fs) o (Kd.pair a b) (fun p => ga p.1 ∧ gb p.2) where
 opens := fun {H enc w base spare held n cs xs} hl hx hf _ => by
  match xs, hx with
  | x :: xs, hx =>
   have hl' : cs.length = a.sz + b.sz := hl
   have h0 := hf 0 f rfl
   rw [ho, Nat.sub_self, List.drop_zero, h.sz] at h0
   obtain ⟨u, hu, gu⟩ := h.opens h0
   obtain ⟨v, hv, gv⟩ := hs.opens (cs := cs.drop a.sz) (xs := xs) (by rw [List.length_drop]; omega) (by simpa using hx) (fun i f' hi => by
    have h1 := hf (i + 1) f' hi
    have h2 := hos i f' hi
    rw [List.drop_drop, show a.sz + (f'.offset - (o + a.sz)) = f'.offset - o from by omega]
    exact h1) hos
   exact ⟨(u, v), ⟨cs.take a.sz, cs.drop a.sz, (List.take_append_drop _ _).symm, hu, hv⟩, gu, gv⟩
theorem fits_struct {α : Type} {P : Program} {t : TypeId} {fs : Array Field} {d : Kd α} {good : α → Prop} (ht : P.underlying t = some (.struct fs)) (hc : P.cellsOf t = d.sz) (h : FitsRow P fs.toList 0 d good) : Fits P t d good where
 sz := hc
 opens := fun hx => by
  obtain ⟨xs, n, _, _, hl, hxl, hf⟩ := DataW.trod_struct ht hx
  exact h.opens (xs := xs) (n := n) (by rw [hl, hc]) (by rw [hxl]; simp) (fun i f hi => by
   have := hf i f (by simpa using hi)
   rw [Nat.sub_zero]
   exact this) (fun _ _ _ => Nat.zero_le _)
theorem filter_all {α : Type} (f : Nat → Option α) : ∀ (len : Nat), (∀ i, i < len → ∃ u, f i = some u) → ((List.range len).filterMap f).length = len ∧ ∀ i, i < len → ((List.range len).filterMap f)[i]? = f i := by
 intro len
 induction len with
 | zero => simp
 | succ k ih =>
  intro hf
  obtain ⟨h1, h2⟩ := ih (fun i hi => hf i (by omega))
  obtain ⟨u, hu⟩ := hf k (by omega)
  rw [List.range_succ, List.filterMap_append]
  simp only [List.filterMap_cons, hu, List.filterMap_nil]
  refine ⟨by simp [h1], fun i hi => ?_⟩
  by_cases hik : i < k
  · rw [List.getElem?_append_left (by omega)]
    exact h2 i hik
  · have : i = k := by omega
    subst this
    rw [List.getElem?_append_right (by omega), h1, hu]
    simp
theorem fits_slice {α : Type} {P : Program} {t e : TypeId} {d : Kd α} {good : α → Prop} (ht : P.underlying t = some (.slice e)) (hc : P.cellsOf t = 1) (h : Fits P e d good) : Fits P t (Kd.slice e d) (fun l => ∀ x ∈ l, good x) where
 sz := hc
 opens := fun {H enc w base spare held fuel cs x} hx => by
  rcases open_slice ht hx with ⟨rfl, _⟩ | ⟨a, len, cap, m, n, D, Pl, rfl, _, hl, hm, hmm, _, hcell⟩
  · exact ⟨[], ⟨none, 0, rfl, Nat.le_refl _, rfl, by simp, fun h0 => absurd h0 (by simp)⟩, by simp⟩
  · have hlm : len ≤ m := by rw [hmm]; split <;> omega
    have each : ∀ i, i < len → ∃ u : α, (∃ c, c.length = d.sz ∧ d.K w u c ∧ ∀ j v, c[j]? = some v → w.cell? (a.add (i * d.sz + j)) = some v) ∧ good u := by
     intro i hi
     obtain ⟨c, h1, h2⟩ := hcell i (by omega)
     rw [h.sz] at h1
     obtain ⟨_, h3, h4⟩ := World.cells?_some h1
     obtain ⟨u, hu, gu⟩ := h.opens h2
     refine ⟨u, ⟨c, h3, hu, fun j v hj => ?_⟩, gu⟩
     have hjl : j < d.sz := by have := (List.getElem?_eq_some_iff.1 hj).1; omega
     have := h4 j hjl
     rw [Addr.add_add] at this
     rw [this, hj]
    have hex : ∃ f : Nat → Option α, ∀ i, i < len → ∃ u, f i = some u ∧ (∃ c, c.length = d.sz ∧ d.K w u c ∧ ∀ j v, c[j]? = some v → w.cell? (a.add (i * d.sz + j)) = some v) ∧ good u := by
     classical
     refine ⟨fun i => if hi : i < len then some (Classical.choose (each i hi)) else none, fun i hi => ⟨Classical.choose (each i hi), by simp [hi], Classical.choose_spec (each i hi)⟩⟩
    obtain ⟨f, hf⟩ := hex
    have hlen := filter_all f len (fun i hi => (hf i hi).imp fun _ h => h.1)
    refine ⟨(List.range len).filterMap f, ⟨some a, cap, by rw [hlen.1], by rw [hlen.1]; exact hl, rfl, by rw [hlen.1]; unfold maxLen at hm; omega, fun _ => ⟨a, rfl, fun j p hj => ?_⟩⟩, fun x hx => ?_⟩
    · have hjl : j < len := by have := (List.getElem?_eq_some_iff.1 hj).1; rw [hlen.1] at this; exact this
      obtain ⟨u, hu, hc, _⟩ := hf j hjl
      rw [hlen.2 j hjl, hu] at hj
      injection hj with hj
      subst hj
      exact hc
    · obtain ⟨j, hj⟩ := List.mem_iff_getElem?.1 hx
      have hjl : j < len := by have := (List.getElem?_eq_some_iff.1 hj).1; rw [hlen.1] at this; exact this
      obtain ⟨u, hu, _, gu⟩ := hf j hjl
      rw [hlen.2 j hjl, hu] at hj
      injection hj with hj
      subst hj
      exact gu
theorem slice_arg {α : Type} {P : Program} {t e : TypeId} {d : Kd α} {good : List α → Prop} (h : Fits P t (Kd.slice e d) good) {H : Type} {enc : TypeId × Value → H} {w : World} {base : Nat} {spare : Nat → Bool} {held : Bool} {fuel : Nat} {v : Value}
 {x : DataW H × List MemPlace} {A : Option Addr} {len cap : Nat} (hv : v = .slice A len cap) (hx : DataW.trod enc P w base spare held fuel t v.cells.toList = some x) : ∃ l : List α, len = l.length ∧ l.length ≤ cap ∧ d.C w A l.length l ∧ good l := by
 subst hv
 obtain ⟨l, ⟨A', c', hcs, hl, hC⟩, hg⟩ := h.opens hx
 simp only [Value.cells, List.cons.injEq, and_true, Value.slice.injEq] at hcs
 obtain ⟨rfl, rfl, rfl⟩ := hcs
 exact ⟨l, rfl, hl, hC, hg⟩
theorem slice_bound {P : Program} {t e : TypeId} (ht : P.underlying t = some (.slice e)) {H : Type} {enc : TypeId × Value → H} {w : World} {base : Nat} {spare : Nat → Bool} {held : Bool} {fuel : Nat}
 {x : DataW H × List MemPlace} {A : Option Addr} {len cap : Nat} (hx : DataW.trod enc P w base spare held fuel t (Value.slice A len cap).cells.toList = some x)
 {ts : List TypeId} {ds : List (DataW H)} (hs : (DataW.weightsEach P ts ds).all (· ≤ reachBytes) = true) {j : Nat} (h1 : ts[j]? = some t) (h2 : ds[j]? = some x.1) {b : Nat} (hb : P.bytesOf e = b) : len * b ≤ 140737488351232 := by
 rcases DataW.trod_slice ht hx with ⟨hc, rfl⟩ | ⟨a, len', cap', elems, rest, n, _, hc, rfl, _, _, _, hl, _⟩
 · simp only [Value.cells, List.cons.injEq, and_true, Value.slice.injEq] at hc
   obtain ⟨rfl, rfl, rfl⟩ := hc
   omega
 · simp only [Value.cells, List.cons.injEq, and_true, Value.slice.injEq] at hc
   obtain ⟨rfl, rfl, rfl⟩ := hc
   have := sized_slice hs h1 h2 ht
   rw [hb, List.length_map, hl] at this
   refine Nat.le_trans (Nat.mul_le_mul_right b (Nat.le_add_right len _)) this
end Go.Proofs.Ytfhapffjnafkbaa.VOpen
end
section
set_option linter.unusedVariables false
set_option linter.unusedSimpArgs false
namespace Go.Proofs.Ytfhapffjnafkbaa.V
open Go.RowKit Go.Proofs.YtfhapffjnafkbaaW.PrintWords Go.Proofs.YtfhapffjnafkbaaW.PrintLast Go.Proofs.YtfhapffjnafkbaaW.PrintMore
def vergerlaw9_SlotPlays.f (a0 : Int) (l1 : List (S57)) : Option Bool := if l1.length ≤ 9223372036854775807 then some true else none
theorem vergerlaw9_SlotPlays.calls (a0 : Int) (A1 : Option Addr) (c1 : Nat) (l1 : List (S57)) (r : Bool) (w : World) (hr1 : Kd.C k57 w A1 l1.length l1) (hc1 : l1.length ≤ c1) (h : vergerlaw9_SlotPlays.f a0 l1 = some r) :
 Calls Try.prog 7 #[.int .i64 a0, .slice A1 l1.length c1] w fun e w' => e = .returned (.bool r) ∧ Below w.heap.size w w' := by
 unfold vergerlaw9_SlotPlays.f at h
 by_cases hl : l1.length ≤ 9223372036854775807
 · rw [if_pos hl] at h
   obtain rfl := Option.some.inj h
   exact slotPlays_walk a0 A1 c1 l1 w hr1 hc1 hl
 · rw [if_neg hl] at h
   cases h
theorem SlotPlays_pure (a0 : Int) (l1 : List (S57)) {P Q : Prop} (_ : P) (hl : l1.length * 40 ≤ 140737488351232) (_ : Q) : vergerlaw9_SlotPlays.f a0 l1 = some true := if_pos (by omega)
end Go.Proofs.Ytfhapffjnafkbaa.V
end
