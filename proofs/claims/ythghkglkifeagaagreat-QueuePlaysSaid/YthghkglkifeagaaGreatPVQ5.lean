-- a text of this work, without what this claim doesn't use (wip/shake.py)
import Derived.Test.YthghkglkifeagaaGreatPVPblockb
import Derived.StillTailTactics
import Derived.BigRegion
import Derived.BigQuiet
import Derived.Laws.MakeOwn
import Derived.Test.YthghkglkifeagaaGreatPVQ0
import Derived.Test.YthghkglkifeagaaGreatPVPblock
import Derived.Test.YthghkglkifeagaaGreatPVLsm13
set_option maxRecDepth 100000
set_option maxHeartbeats 8000000
set_option linter.unusedVariables false
set_option linter.unusedSimpArgs false
namespace Go.Proofs.YthghkglkifeagaaGreat.V
open Go.RowKit Go.Proofs.YthghkglkifeagaaGreatW.PrintWords Go.Proofs.YthghkglkifeagaaGreatW.PrintLast Go.Proofs.YthghkglkifeagaaGreatW.PrintMore
structure One where
  key : Int
  id : Int
  full : Bool
  ver : Int
def encO (o : One) : List Value := [.int .u64 o.key, .int .i64 o.id, .bool o.full, .int .u64 o.ver]
def a1p (L : List One) : List Value := L.flatMap encO
theorem c1c (L : List One) (t j : Nat) (o : One) (h : L[t]? = some o) (hj : j < 4) : (a1p L)[t * 4 + j]? = (encO o)[j]? := by
 induction L generalizing t with
 | nil => simp at h
 | cons a r ih =>
  cases t with
  | zero =>
   obtain rfl : a = o := by simpa using h
   show (encO a ++ a1p r)[0 * 4 + j]? = _
   rw [List.getElem?_append_left (by simp [encO]; omega)]
   simp
  | succ t =>
   show (encO a ++ a1p r)[(t + 1) * 4 + j]? = _
   rw [List.getElem?_append_right (by simp [encO]; omega), show (t + 1) * 4 + j - (encO a).length = t * 4 + j by simp [encO]; omega]
   exact ih t (by simpa using h)
def SlotsAt (w : World) (p g : Nat) (L : List One) : Prop :=
  p ≠ g ∧ w.heap[p]? = some (.cells #[.slice (some ⟨g, 0, none⟩) L.length L.length] 95 (0, 0)) ∧ w.heap[g]? = some (.cells (a1p L).toArray 106 (0, 0)) ∧ L.length ≤ 8
theorem SlotsAt.head {w : World} {p g : Nat} {L : List One} (h : SlotsAt w p g L) : w.cell? ⟨p, 0, none⟩ = some (.slice (some ⟨g, 0, none⟩) L.length L.length) := by simp [World.cell?, h.2.1]
theorem SlotsAt.cell {w : World} {p g : Nat} {L : List One} (h : SlotsAt w p g L) {t : Nat} {o : One} (ht : L[t]? = some o) (j : Nat) (hj : j < 4) : w.cell? ⟨g, t * 4 + j, none⟩ = (encO o)[j]? := by
 rw [a1e h.2.2.1 (t * 4 + j)]
 rw [List.getElem?_toArray, c1c L t j o ht hj]
theorem SlotsAt.nofrozen {w : World} {p g : Nat} {L : List One} (h : SlotsAt w p g L) (j : Nat) : w.frozen? ⟨g, j, none⟩ = false := a1h h.2.2.1 j
theorem SlotsAt.lt {w : World} {p g : Nat} {L : List One} (h : SlotsAt w p g L) : p < w.heap.size ∧ g < w.heap.size := ⟨(Array.getElem?_eq_some_iff.1 h.2.1).1, (Array.getElem?_eq_some_iff.1 h.2.2.1).1⟩
theorem a5z {W : World} {g j : Nat} {v : Value} {c : Array Value} {e : TypeId} {f : Nat × Nat} (h : W.heap[g]? = some (.cells c e f)) : (W.setCell ⟨g, j, none⟩ v).heap[g]? = some (.cells (c.setIfInBounds j v) e f) := by
 simp only [World.setCell, Array.getElem?_modify, h]
 simp
theorem a0z {W : World} {g j k : Nat} {v : Value} (h : k ≠ g) : (W.setCell ⟨g, j, none⟩ v).heap[k]? = W.heap[k]? := by
 simp only [World.setCell, Array.getElem?_modify]
 rw [if_neg (fun e => h e.symm)]
theorem b6p (L : List One) : ∀ (t : Nat), t < L.length → ∀ (k i : Int) (f : Bool) (v : Int),
 ((((a1p L).set (t * 4) (.int .u64 k)).set (t * 4 + 1) (.int .i64 i)).set (t * 4 + 2) (.bool f)).set (t * 4 + 3) (.int .u64 v) = a1p (L.set t ⟨k, i, f, v⟩) := by
 induction L with
 | nil => intro t h; simp at h
 | cons a r ih =>
  intro t h k i f v
  cases t with
  | zero => rfl
  | succ t =>
   have := ih t (by simpa using h) k i f v
   show ((((encO a ++ a1p r).set ((t + 1) * 4) _).set ((t + 1) * 4 + 1) _).set ((t + 1) * 4 + 2) _).set ((t + 1) * 4 + 3) _ = encO a ++ a1p (r.set t _)
   rw [← this, show (t + 1) * 4 = t * 4 + 4 by omega, show t * 4 + 4 + 1 = t * 4 + 1 + 4 by omega, show t * 4 + 4 + 2 = t * 4 + 2 + 4 by omega, show t * 4 + 4 + 3 = t * 4 + 3 + 4 by omega]
   simp only [encO, List.cons_append, List.nil_append, List.set_cons_succ]
theorem b1i {w W : World} {p g : Nat} {L : List One} (h : SlotsAt W p g L) (hB : Below w.heap.size w W) (hw : w.heap.size ≤ W.heap.size) {t : Nat} (ht : t < L.length) (k i : Int) (f : Bool) (v : Int) :
 SlotsAt (((((W.setCell ⟨g, t * 4, none⟩ (.int .u64 k)).setCell ⟨g, t * 4 + 1, none⟩ (.int .i64 i)).setCell ⟨g, t * 4 + 2, none⟩ (.bool f)).setCell ⟨g, t * 4 + 3, none⟩ (.int .u64 v))) p g (L.set t ⟨k, i, f, v⟩) ∧
 w.grownBy (((((W.setCell ⟨g, t * 4, none⟩ (.int .u64 k)).setCell ⟨g, t * 4 + 1, none⟩ (.int .i64 i)).setCell ⟨g, t * 4 + 2, none⟩ (.bool f)).setCell ⟨g, t * 4 + 3, none⟩ (.int .u64 v))) (some g) := by
 obtain ⟨hn, h1, h2, h3⟩ := h
 refine ⟨⟨hn, ?_, ?_, by simpa using h3⟩, ⟨hB.os, hB.tape, hB.output, ?_, ?_⟩⟩
 · rw [a0z hn, a0z hn, a0z hn, a0z hn, h1, List.length_set]
 · rw [a5z (a5z (a5z (a5z h2)))]
   simp only [List.setIfInBounds_toArray]
   rw [b6p L t ht]
 · simpa [World.setCell] using hw
 · intro q hq hne
   have hqg : q ≠ g := fun e => hne (by rw [e])
   rw [a0z hqg, a0z hqg, a0z hqg, a0z hqg]
   exact hB.block q hq
theorem SlotsAt.drew {w : World} {p g : Nat} {L : List One} (h : SlotsAt w p g L) : SlotsAt w.drew p g L := h
theorem c2t {w W : World} {r : Option Nat} (h : w.grownBy W r) : w.grownBy W.drew r := ⟨h.os, h.tape, h.output, h.size, h.block⟩
theorem a7h (p g n : Nat) (t : Int) (w : World) (hp : w.cell? ⟨p, 0, none⟩ = some (.slice (some ⟨g, 0, none⟩) n n)) (h0 : 0 ≤ t) (h1 : t < n) (hn : n ≤ 8) :
 Calls Tryz.prog 66 #[.pointer (some ⟨p, 0, none⟩), .int .i64 t] w fun e w' => e = .returned (.pointer (some ⟨g, t.toNat * 4, none⟩)) ∧ w = w' := by
 have c0 : decide (t < 0) = false := decide_eq_false (by omega)
 have c1 : decide ((n : Int) ≤ t) = false := decide_eq_false (by omega)
 go_enter Tryz.func66, Tryz.ntmps66
 go_wp2
 go_ret
 exact ⟨rfl, rfl⟩
theorem c0o (p g n : Nat) (t : Int) (w : World) (hp : w.cell? ⟨p, 0, none⟩ = some (.slice (some ⟨g, 0, none⟩) n n)) (h : t < 0 ∨ n ≤ t) (hn : n ≤ 8) :
 Calls Tryz.prog 66 #[.pointer (some ⟨p, 0, none⟩), .int .i64 t] w fun e w' => e = .returned (.pointer none) ∧ w = w' := by
 by_cases h0 : t < 0
 · have c0 : decide (t < 0) = true := decide_eq_true h0
   clear h
   go_enter Tryz.func66, Tryz.ntmps66
   go_wp2
   go_ret
   exact ⟨rfl, rfl⟩
 · have c0 : decide (t < 0) = false := decide_eq_false h0
   have c1 : decide ((n : Int) ≤ t) = true := decide_eq_true (by omega)
   clear h
   go_enter Tryz.func66, Tryz.ntmps66
   go_wp2
   go_ret
   exact ⟨rfl, rfl⟩
theorem SlotsAt.below {w w1 : World} {p g : Nat} {L : List One} (h : SlotsAt w p g L) (hb : Below w.heap.size w w1) : SlotsAt w1 p g L :=
 ⟨h.1, (hb.block _ h.lt.1).trans h.2.1, (hb.block _ h.lt.2).trans h.2.2.1, h.2.2.2⟩
def setO (L : List One) (t : Int) (o : One) : List One := L.set t.toNat o
theorem b4m (p g : Nat) (L : List One) (t key id : Int) (o : One) (w : World) (hs : SlotsAt w p g L) (h0 : 0 ≤ t) (h1 : L[t.toNat]? = some o) (hf : o.full = false) :
 Calls Tryz.prog 33 #[.pointer (some ⟨p, 0, none⟩), .int .i64 t, .agg #[.int .u64 key, .int .i64 id]] w fun e w' => e = .returned (.int .i64 0) ∧ SlotsAt w' p g (setO L t ⟨key, id, true, IntKind.u64.wrap (o.ver + 1)⟩) ∧ w.grownBy w' (some g) := by
 have hb : Below w.heap.size w (w.alloc (.cells #[.int .u64 key, .int .i64 id] 33)) := (Below.refl _ _).alloc (Nat.le_refl _) _
 have hs1 := hs.below hb
 have hlt : t < (L.length : Int) := by have := (List.getElem?_eq_some_iff.1 h1).1; omega
 have HP := za hs1.head
 have H8 := za hs.2.2.2
 have H0 := za h0
 have H1 := za hlt
 have c0 := hs1.cell h1 0 (by omega)
 have c1 := hs1.cell h1 1 (by omega)
 have c2 := hs1.cell h1 2 (by omega)
 have c3 := hs1.cell h1 3 (by omega)
 have f0 := hs1.nofrozen (t.toNat * 4)
 have f1 := hs1.nofrozen (t.toNat * 4 + 1)
 have f2 := hs1.nofrozen (t.toNat * 4 + 2)
 have f3 := hs1.nofrozen (t.toNat * 4 + 3)
 simp only [encO, hf, List.getElem?_cons_succ, List.getElem?_cons_zero, Nat.add_zero] at c0 c1 c2 c3
 have HS := za hs1
 have HT := za (List.getElem?_eq_some_iff.1 h1).1
 clear hs hs1 h0 h1 hlt hf
 go_enter Tryz.func33, Tryz.ntmps33
 go_wp2_with (first | (go_at_call 66; (refine (a7h p g L.length t _ ?hq H0.out H1.out H8.out).mono ?_); (case hq => exact HP.out); rintro e w' ⟨rfl, rfl⟩))
 go_region
 all_goals (go_wp2; go_ret)
 have hst := b1i (w := w) HS.out hb hb.size (t := t.toNat) HT.out key id true (IntKind.u64.wrap (o.ver + 1))
 exact ⟨rfl, hst.1.drew, c2t hst.2⟩
theorem b3t {w W W' : World} {r : Option Nat} (h : w.grownBy W r) (b : Below W.heap.size W W') : w.grownBy W' r :=
 ⟨b.os.trans h.os, b.tape.trans h.tape, b.output.trans h.output, Nat.le_trans h.size b.size, fun k hk hn => (b.block k (Nat.lt_of_lt_of_le hk h.size)).trans (h.block k hk hn)⟩
theorem a4p {w : World} {p g : Nat} {L : List One} {t : Nat} {o : One} (h : SlotsAt w p g L) (ht : L[t]? = some o) :
 w.cell? ⟨g, t * 4, none⟩ = some (.int .u64 o.key) ∧ w.cell? ⟨g, t * 4 + 1, none⟩ = some (.int .i64 o.id) ∧ w.cell? ⟨g, t * 4 + 2, none⟩ = some (.bool o.full) ∧ w.cell? ⟨g, t * 4 + 3, none⟩ = some (.int .u64 o.ver) :=
 ⟨h.cell ht 0 (by omega), h.cell ht 1 (by omega), h.cell ht 2 (by omega), h.cell ht 3 (by omega)⟩
theorem b5b (p g : Nat) (L : List One) (t : Nat) (o : One) (w : World) (hs : SlotsAt w p g L) (ht : L[t]? = some o) :
 Calls Tryz.prog 67 #[.pointer (some ⟨g, t * 4, none⟩)] w fun e w' => e = .returned (.agg #[.int .u64 o.key, .int .i64 o.id]) ∧ SlotsAt w' p g (L.set t ⟨0, 0, false, IntKind.u64.wrap (o.ver + 1)⟩) ∧ w.grownBy w' (some g) := by
 have hg := hs.lt.2
 have HL := za (List.getElem?_eq_some_iff.1 ht).1
 obtain ⟨c0, c1, c2, c3⟩ := a4p hs ht
 have f0 := hs.nofrozen (t * 4)
 have f1 := hs.nofrozen (t * 4 + 1)
 have f2 := hs.nofrozen (t * 4 + 2)
 have f3 := hs.nofrozen (t * 4 + 3)
 have HS := za hs
 clear hs ht
 go_enter Tryz.func67, Tryz.ntmps67
 go_wp2
 have hst := b1i (w := w) HS.out (Below.refl _ _) (Nat.le_refl _) (t := t) HL.out 0 0 false (IntKind.u64.wrap (o.ver + 1))
 have hb := (((Below.refl _ _).alloc (Nat.le_refl _) (.cells #[.int .u64 o.key, .int .i64 o.id] 33)).alloc (by simp) (.cells #[.int .u64 o.key, .int .i64 o.id] 33) : Below (((((w.setCell ⟨g, t * 4, none⟩ (.int .u64 0)).setCell ⟨g, t * 4 + 1, none⟩ (.int .i64 0)).setCell ⟨g, t * 4 + 2, none⟩ (.bool false)).setCell ⟨g, t * 4 + 3, none⟩ (.int .u64 (IntKind.u64.wrap (o.ver + 1))))).heap.size _ _)
 exact bodyPost_ret (v := .agg #[.int .u64 o.key, .int .i64 o.id]) (by simp [results, Tryz.results67, go_sem]) rfl ⟨rfl, hst.1.below hb, b3t hst.2 hb⟩
theorem c2x (p g : Nat) (L : List One) (t : Int) (w : World) (hs : SlotsAt w p g L) (h : t < 0 ∨ L.length ≤ t) :
 Calls Tryz.prog 34 #[.pointer (some ⟨p, 0, none⟩), .int .i64 t] w fun e w' => e = .returned (.tuple #[.agg #[.int .u64 0, .int .i64 0], .int .u64 0, .bool false]) ∧ Below w.heap.size w w' := by
 have HS := za hs
 have HT := za h
 clear hs h
 go_enter Tryz.func34, Tryz.ntmps34
 go_wp2_with (first | (go_at_call 66; (refine (c0o p g L.length t _ ?hq HT.out HS.out.2.2.2).mono ?_); (case hq => exact (HS.out.below ((Below.refl _ _).alloc (Nat.le_refl _) _)).head); rintro e w' ⟨rfl, rfl⟩))
 exact bodyPost_ret (v := .tuple #[.agg #[.int .u64 0, .int .i64 0], .int .u64 0, .bool false]) (by simp [results, Tryz.results34, go_sem]) rfl ⟨rfl, (Below.refl _ _).alloc (Nat.le_refl _) _⟩
theorem a3q (p g : Nat) (L : List One) (t : Int) (o : One) (w : World) (hs : SlotsAt w p g L) (h0 : 0 ≤ t) (h1 : L[t.toNat]? = some o) :
 Calls Tryz.prog 34 #[.pointer (some ⟨p, 0, none⟩), .int .i64 t] w fun e w' => e = .returned (.tuple #[.agg #[.int .u64 o.key, .int .i64 o.id], .int .u64 o.ver, .bool o.full]) ∧ Below w.heap.size w w' := by
 have hlt := (List.getElem?_eq_some_iff.1 h1).1
 have HS := za hs
 have H0 := za h0
 have H1 := za (show t < (L.length : Int) by omega)
 obtain ⟨c0, c1, c2, c3⟩ := a4p (hs.below ((Below.refl _ _).alloc (Nat.le_refl _) (.cells #[.int .u64 0, .int .i64 0] 33))) h1
 obtain ⟨d0, d1, d2, d3⟩ := a4p (hs.below ((Below.refl _ _).alloc (Nat.le_refl _) (.cells #[.int .u64 o.key, .int .i64 o.id] 33))) h1
 clear hs h0 h1 hlt
 go_enter Tryz.func34, Tryz.ntmps34
 go_wp2_with (first | (go_at_call 66; (refine (a7h p g L.length t _ ?hq H0.out H1.out HS.out.2.2.2).mono ?_); (case hq => exact (HS.out.below ((Below.refl _ _).alloc (Nat.le_refl _) _)).head); rintro e w' ⟨rfl, rfl⟩))
 go_region
 all_goals go_wp2
 exact bodyPost_ret (v := .tuple #[.agg #[.int .u64 o.key, .int .i64 o.id], .int .u64 o.ver, .bool o.full]) (by simp [results, Tryz.results34, go_sem]) rfl ⟨rfl, below_drew ((Below.refl _ _).alloc (Nat.le_refl _) _)⟩
theorem SlotsAt.other {W : World} {p g b j : Nat} {v : Value} {L : List One} (h : SlotsAt W p g L) (hp : p ≠ b) (hg : g ≠ b) : SlotsAt (W.setCell ⟨b, j, none⟩ v) p g L :=
 ⟨h.1, (a0z hp).trans h.2.1, (a0z hg).trans h.2.2.1, h.2.2.2⟩
theorem b1f {w W : World} {r : Option Nat} {b j : Nat} {v : Value} (h : w.grownBy W r) (hb : w.heap.size ≤ b) : w.grownBy (W.setCell ⟨b, j, none⟩ v) r :=
 ⟨h.os, h.tape, h.output, by simpa [World.setCell] using h.size, fun k hk hn => (a0z (by omega)).trans (h.block k hk hn)⟩
theorem a8m (w : World) (o : Obj) : (w.alloc o).heap[w.heap.size]? = some o := by
 show (w.heap.push o)[w.heap.size]? = _
 simp
theorem c0p {w W W' : World} {r : Option Nat} (b : Below w.heap.size w W) (h : W.grownBy W' r) : w.grownBy W' r :=
 ⟨h.os.trans b.os, h.tape.trans b.tape, h.output.trans b.output, Nat.le_trans b.size h.size, fun k hk hn => (h.block k (Nat.lt_of_lt_of_le hk b.size) hn).trans (b.block k hk)⟩
theorem a8w (p g : Nat) (L : List One) (t : Int) (o : One) (w : World) (hs : SlotsAt w p g L) (h0 : 0 ≤ t) (h1 : L[t.toNat]? = some o) (hf : o.full = true) :
 Calls Tryz.prog 35 #[.pointer (some ⟨p, 0, none⟩), .int .i64 t, .int .u64 o.ver] w fun e w' => e = .returned (.tuple #[.agg #[.int .u64 o.key, .int .i64 o.id], .bool true]) ∧ SlotsAt w' p g (setO L t ⟨0, 0, false, IntKind.u64.wrap (o.ver + 1)⟩) ∧ w.grownBy w' (some g) := by
 have hlt := (List.getElem?_eq_some_iff.1 h1).1
 have HT := za h1
 have hb0 := (Below.refl w.heap.size w).alloc (Nat.le_refl _) (.cells #[.int .u64 0, .int .i64 0] 33)
 have HB0 := za hb0
 have HS := za (hs.below hb0)
 have H0 := za h0
 have H1 := za (show t < (L.length : Int) by omega)
 have HL := za hs.lt
 obtain ⟨c0, c1, c2, c3⟩ := a4p (hs.below hb0) h1
 rw [hf] at c2
 clear hs h0 h1 hlt hb0 hf
 go_enter Tryz.func35, Tryz.ntmps35
 go_wp2_with (first
  | (go_at_call 66; (refine (a7h p g L.length t _ ?hq H0.out H1.out HS.out.2.2.2).mono ?_); (case hq => exact HS.out.head); rintro e w' ⟨rfl, rfl⟩)
  | (go_at_call 67; (refine (b5b p g L t.toNat o _ HS.out HT.out).mono ?_); rintro e w1 ⟨rfl, hs1, hg1⟩; have hb := (hg1.block w.heap.size (by simp) (by have := HL.out.2; simp; omega)).trans (a8m w (.cells #[.int .u64 0, .int .i64 0] 33)); have k0 : w1.cell? ⟨w.heap.size, 0, none⟩ = some (.int .u64 0) := a1e hb 0; have k1 : w1.cell? ⟨w.heap.size, 1, none⟩ = some (.int .i64 0) := a1e hb 1; have f0 := a1h hb 0; have f1 := a1h hb 1; have HS1 := za hs1; have HG1 := za hg1; clear hs1 hg1 hb))
 refine bodyPost_ret (v := .tuple #[.agg #[.int .u64 o.key, .int .i64 o.id], .bool true]) (by simp [results, Tryz.results35, go_sem, k0, k1]) rfl ⟨rfl, ?_, ?_⟩
 · exact (HS1.out.other (by have := HL.out.1; omega) (by have := HL.out.2; omega)).other (by have := HL.out.1; omega) (by have := HL.out.2; omega)
 · exact b1f (b1f (c0p HB0.out HG1.out) (Nat.le_refl _)) (Nat.le_refl _)
theorem c1g (n : Int) (w : World) (h : n < 1 ∨ 8 < n) : Calls Tryz.prog 29 #[.int .i64 n] w fun e w' => e = .returned (.tuple #[.pointer none, .int .i64 1]) ∧ w = w' := by
 by_cases h0 : n < 1
 · have c0 : decide (n < 1) = true := decide_eq_true h0
   clear h
   go_enter Tryz.func29, Tryz.ntmps29
   go_wp2
   exact bodyPost_ret (v := .tuple #[.pointer none, .int .i64 1]) (by simp [results, Tryz.results29, go_sem]) rfl ⟨rfl, rfl⟩
 · have c0 : decide (n < 1) = false := decide_eq_false h0
   have c1 : decide (8 < n) = true := decide_eq_true (by omega)
   clear h
   go_enter Tryz.func29, Tryz.ntmps29
   go_wp2
   exact bodyPost_ret (v := .tuple #[.pointer none, .int .i64 1]) (by simp [results, Tryz.results29, go_sem]) rfl ⟨rfl, rfl⟩
def a2c : One := ⟨0, 0, false, 0⟩
theorem b4s (n : Nat) (h0 : 1 ≤ n) (h1 : n ≤ 8) : madeCells #[.int .u64 0, .int .i64 0, .bool false, .int .u64 0] (n * 4) = (a1p (List.replicate n a2c)).toArray := by
 have : n = 1 ∨ n = 2 ∨ n = 3 ∨ n = 4 ∨ n = 5 ∨ n = 6 ∨ n = 7 ∨ n = 8 := by omega
 rcases this with rfl | rfl | rfl | rfl | rfl | rfl | rfl | rfl <;> (apply Array.ext'; simp [madeCells, Array.toList_map, Array.toList_range, List.range, List.range.loop, a1p, encO, a2c, List.replicate])
theorem c2m : (Tryz.prog.info? 106).map (fun i => (i.zero, i.size, i.bytes)) = some (some (.agg #[.int .u64 0, .int .i64 0, .bool false, .int .u64 0]), 4, 32) := by kernel_rfl
theorem c2n (n : Nat) (h0 : 1 ≤ n) (h1 : n ≤ 8) (W : World) : (Instr.makeSlice 93 (.int .i64 (n : Int)) (.int .i64 (n : Int))).run Tryz.prog W = .ok (.slice (some ⟨W.heap.size, 0, none⟩) n n) (W.alloc (.cells (a1p (List.replicate n a2c)).toArray 106)) := by
 obtain ⟨i0, hi, hzz⟩ := Option.map_eq_some_iff.1 c2m
 simp only [Prod.mk.injEq] at hzz
 obtain ⟨hz0, hz1, hz2⟩ := hzz
 have hr := run_make (P := Tryz.prog) W 93 106 i0 _ Tryz.underlying93 hi hz0 .i64 .i64 (n : Int) (n : Int) (by omega) (by omega) (by rw [hz2]; omega) (by omega)
 simp only [Int.toNat_natCast, hz1] at hr
 rw [hr]
 show Result.ok _ (W.alloc (.cells (madeCells #[.int .u64 0, .int .i64 0, .bool false, .int .u64 0] (n * 4)) 106)) = _
 rw [b4s n h0 h1]
theorem a6u (n : Nat) (w : World) (h0 : 1 ≤ n) (h1 : n ≤ 8) : Calls Tryz.prog 29 #[.int .i64 n] w fun e w' => ∃ p g : Nat, w.heap.size ≤ p ∧ w.heap.size ≤ g ∧ e = .returned (.tuple #[.pointer (some ⟨p, 0, none⟩), .int .i64 0]) ∧ SlotsAt w' p g (List.replicate n a2c) ∧ Below w.heap.size w w' := by
 have c0 : decide ((n : Int) < 1) = false := decide_eq_false (by omega)
 have c1 : decide (8 < (n : Int)) = false := decide_eq_false (by omega)
 have hm := c2n n h0 h1 w
 have H1 := za h1
 clear h0 h1
 go_enter Tryz.func29, Tryz.ntmps29
 go_wp2
 have hb := (((Below.refl w.heap.size w).alloc (Nat.le_refl _) (.cells (a1p (List.replicate n a2c)).toArray 106)).alloc (by simp) (.cells #[.slice (some ⟨w.heap.size, 0, none⟩) n n] 95))
 have hs1 : (w.alloc (.cells (a1p (List.replicate n a2c)).toArray 106)).heap.size = w.heap.size + 1 := by simp
 have hp := a8m (w.alloc (.cells (a1p (List.replicate n a2c)).toArray 106)) (.cells #[.slice (some ⟨w.heap.size, 0, none⟩) n n] 95)
 rw [hs1] at hp
 have hg := (((Below.refl _ (w.alloc (.cells (a1p (List.replicate n a2c)).toArray 106))).alloc (Nat.le_refl _) (.cells #[.slice (some ⟨w.heap.size, 0, none⟩) n n] 95)).block w.heap.size (by omega)).trans (a8m w (.cells (a1p (List.replicate n a2c)).toArray 106))
 exact bodyPost_ret (v := .tuple #[.pointer (some ⟨w.heap.size + 1, 0, none⟩), .int .i64 0]) (by simp [results, Tryz.results29, go_sem]) rfl ⟨w.heap.size + 1, w.heap.size, by omega, Nat.le_refl _, rfl, ⟨by omega, by rw [List.length_replicate]; exact hp, hg, by rw [List.length_replicate]; exact H1.out⟩, hb⟩
def kP : Kd Nat := Kd.scalar (fun n : Nat => Value.pointer (some ⟨n, 0, none⟩)) (fun _ => rfl)
structure Own1 where
  p : Nat
  v : Value
  bs : List Bk
structure QSt where
  k : Nat
  L : List One
  ms : List Own1
  ps : Nat
  gs : Nat
  vr : Value
  psh : Nat
  ver : Int
  vs : Value
  sb : List Bk
structure QAt (who : Nat → Nat) (w : World) (base pq : Nat) (q : QSt) : Prop where
  hd : w.heap[pq]? = some (.cells #[.int .i64 q.k, .pointer (some ⟨q.ps, 0, none⟩), q.vr, .pointer (some ⟨q.psh, 0, none⟩)] 64 (0, 0))
  wq : who pq = 1
  rw : Kd.N kP 65 w base (fun k => who k = 1) q.vr (q.ms.map Own1.p)
  sl : SlotsAt w q.ps q.gs q.L
  wps : who q.ps = 0
  wgs : who q.gs = 0
  ow : ∀ (t : Nat) m, q.ms[t]? = some m → LsmO who (t + 3) w base m.p m.v m.bs
  sh : ShO who 2 w base q.psh q.ver q.vs q.sb
  lq : base ≤ pq
  ls : base ≤ q.ps ∧ base ≤ q.gs
  len : q.L.length = q.ms.length
  few : q.ms.length ≤ 8
  some : 1 ≤ q.ms.length
namespace QAt
variable {who : Nat → Nat} {w w1 : World} {base pq : Nat} {q : QSt}
theorem lt (h : QAt who w base pq q) : pq < w.heap.size := (Array.getElem?_eq_some_iff.1 h.hd).1
theorem c0 (h : QAt who w base pq q) : w.cell? ⟨pq, 0, none⟩ = .some (.int .i64 q.k) := by simp [World.cell?, h.hd]
theorem c1 (h : QAt who w base pq q) : w.cell? ⟨pq, 1, none⟩ = .some (.pointer (.some ⟨q.ps, 0, none⟩)) := by simp [World.cell?, h.hd]
theorem c2 (h : QAt who w base pq q) : w.cell? ⟨pq, 2, none⟩ = .some q.vr := by simp [World.cell?, h.hd]
theorem c3 (h : QAt who w base pq q) : w.cell? ⟨pq, 3, none⟩ = .some (.pointer (.some ⟨q.psh, 0, none⟩)) := by simp [World.cell?, h.hd]
theorem lists (h : QAt who w base pq q) : ∃ g cap, q.vr = .slice (.some ⟨g, 0, none⟩) q.ms.length cap ∧ q.ms.length ≤ cap ∧ who g = 1 ∧ ∀ (t : Nat) m, q.ms[t]? = .some m → w.cell? ⟨g, t, none⟩ = .some (.pointer (.some ⟨m.p, 0, none⟩)) := by
 have hr := h.rw
 obtain ⟨g, cap, e, h1, h2, _⟩ := Kd.N_form hr (by rw [List.length_map]; exact h.some)
 rw [e] at hr
 refine ⟨g, cap, by rw [e, List.length_map], by have := (Kd.N_reads' hr).2.1; rw [List.length_map] at this; exact this, hr.1 g rfl, fun t m hm => ?_⟩
 have hlt := (List.getElem?_eq_some_iff.1 hm).1
 obtain ⟨c, hc, hK, hr2, _⟩ := Kd.N_elem hr 0 (t : Int) (by omega) (by rw [List.length_map]; omega)
 rw [show (q.ms.map Own1.p).getD ((t : Int)).toNat 0 = m.p by rw [Int.toNat_natCast, List.getD_eq_getElem?_getD, List.getElem?_map, hm]; rfl] at hK
 have hk : c = [Value.pointer (.some ⟨m.p, 0, none⟩)] := Kd.FK_now hK
 subst hk
 have := hr2 0 _ rfl
 rw [Int.toNat_natCast, show kP.sz = 1 from rfl, Nat.mul_one, Nat.add_zero] at this
 exact this
theorem base_other (h : QAt who w base pq q) {s : Nat} (hs : w.heap.size ≤ w1.heap.size) (hb : ∀ k, k < w.heap.size → who k ≠ s → w1.heap[k]? = w.heap[k]?) (hne : s ≠ 1) :
 w1.heap[pq]? = .some (.cells #[.int .i64 q.k, .pointer (.some ⟨q.ps, 0, none⟩), q.vr, .pointer (.some ⟨q.psh, 0, none⟩)] 64 (0, 0)) ∧ upO who s w.heap.size pq = 1 ∧ Kd.N kP 65 w1 base (fun k => upO who s w.heap.size k = 1) q.vr (q.ms.map Own1.p) := by
 refine ⟨(hb pq h.lt (by rw [h.wq]; omega)).trans h.hd, by rw [a0r h.lt]; exact h.wq, ?_⟩
 refine Kd.N_mono (Kd.N_step (Kd.N_bound h.rw) (fun k hk hlt => hb k hlt (by rw [hk.1]; omega))) (fun k hk => ?_)
 show upO who s w.heap.size k = 1
 rw [a0r hk.2]; exact hk.1
theorem slots_other (h : QAt who w base pq q) {s : Nat} (hb : ∀ k, k < w.heap.size → who k ≠ s → w1.heap[k]? = w.heap[k]?) (hne : s ≠ 0) :
 SlotsAt w1 q.ps q.gs q.L ∧ upO who s w.heap.size q.ps = 0 ∧ upO who s w.heap.size q.gs = 0 := by
 obtain ⟨l1, l2⟩ := h.sl.lt
 exact ⟨⟨h.sl.1, (hb _ l1 (by rw [h.wps]; omega)).trans h.sl.2.1, (hb _ l2 (by rw [h.wgs]; omega)).trans h.sl.2.2.1, h.sl.2.2.2⟩, by rw [a0r l1]; exact h.wps, by rw [a0r l2]; exact h.wgs⟩
theorem below (h : QAt who w base pq q) (hb : Below w.heap.size w w1) (s : Nat) (hs : q.ms.length + 3 ≤ s) : QAt (upO who s w.heap.size) w1 base pq q := by
 have hk : ∀ k, k < w.heap.size → who k ≠ s → w1.heap[k]? = w.heap[k]? := fun k hk _ => hb.block k hk
 obtain ⟨a1, a2, a3⟩ := h.base_other hb.size hk (s := s) (by omega)
 obtain ⟨b1, b2, b3⟩ := h.slots_other hk (s := s) (by omega)
 exact ⟨a1, a2, a3, b1, b2, b3, fun t m hm => (h.ow t m hm).other hb.size hk (by have := (List.getElem?_eq_some_iff.1 hm).1; omega), h.sh.other hb.size hk (by omega), h.lq, h.ls, h.len, h.few, h.some⟩
theorem turnS (h : QAt who w base pq q) {L' : List One} (hs : SlotsAt w1 q.ps q.gs L') (hg : w.grownBy w1 (.some q.gs)) (hl : L'.length = q.L.length) : QAt (upO who 0 w.heap.size) w1 base pq { q with L := L' } := by
 have hk : ∀ k, k < w.heap.size → who k ≠ 0 → w1.heap[k]? = w.heap[k]? := fun k hk hne => hg.block k hk (fun e => hne (by injection e with e; rw [e]; exact h.wgs))
 obtain ⟨a1, a2, a3⟩ := h.base_other hg.size hk (s := 0) (by omega)
 obtain ⟨l1, l2⟩ := h.sl.lt
 exact ⟨a1, a2, a3, hs, by rw [a0r l1]; exact h.wps, by rw [a0r l2]; exact h.wgs, fun t m hm => (h.ow t m hm).other hg.size hk (by omega), h.sh.other hg.size hk (by omega), h.lq, h.ls, hl.trans h.len, h.few, h.some⟩
theorem turnL (h : QAt who w base pq q) {t : Nat} {m : Own1} (hm : q.ms[t]? = .some m) {v' : Value} {bs' : List Bk} (hl : @LsmAt (XO who (t + 3) w.heap.size) w1 base m.p v' bs') (hT : Turn w w1 m.p m.v v') :
 QAt (upO who (t + 3) w.heap.size) w1 base pq { q with ms := q.ms.set t ⟨m.p, v', bs'⟩ } := by
 have hO := h.ow t m hm
 have hk := hO.turnO hT
 obtain ⟨a1, a2, a3⟩ := h.base_other hT.size hk (s := t + 3) (by omega)
 obtain ⟨b1, b2, b3⟩ := h.slots_other hk (s := t + 3) (by omega)
 have hlt := (List.getElem?_eq_some_iff.1 hm).1
 have e1 : (q.ms.set t ⟨m.p, v', bs'⟩).map Own1.p = q.ms.map Own1.p := by
  rw [List.map_set]
  apply List.ext_getElem?
  intro i
  rw [List.getElem?_set]
  by_cases hi : t = i
  · subst hi
    rw [if_pos rfl, if_pos (by rw [List.length_map]; exact hlt), List.getElem?_map, hm]
    rfl
  · rw [if_neg hi]
 refine ⟨a1, a2, by rw [e1]; exact a3, b1, b2, b3, fun i n hn => ?_, h.sh.other hT.size hk (by omega), h.lq, h.ls, by rw [List.length_set]; exact h.len, by rw [List.length_set]; exact h.few, by rw [List.length_set]; exact h.some⟩
 have hn : (q.ms.set t ⟨m.p, v', bs'⟩)[i]? = .some n := hn
 rw [List.getElem?_set] at hn
 by_cases hi : t = i
 · subst hi
   rw [if_pos rfl, if_pos hlt] at hn
   injection hn with hn
   subst hn
   exact hO.same hl hT.size
 · rw [if_neg hi] at hn
   exact (h.ow i n hn).other hT.size hk (by omega)
theorem turnA (h : QAt who w base pq q) {ver' : Int} {v' : Value} {bs' : List Bk} (hl : @ShAt (XO who 2 w.heap.size) w1 base q.psh ver' v' bs') (hg : w.grownBy w1 (.some q.psh)) :
 QAt (upO who 2 w.heap.size) w1 base pq { q with ver := ver', vs := v', sb := bs' } := by
 have hk : ∀ k, k < w.heap.size → who k ≠ 2 → w1.heap[k]? = w.heap[k]? := fun k hk hne => hg.block k hk (fun e => hne (by injection e with e; rw [e]; exact h.sh.2))
 obtain ⟨a1, a2, a3⟩ := h.base_other hg.size hk (s := 2) (by omega)
 obtain ⟨b1, b2, b3⟩ := h.slots_other hk (s := 2) (by omega)
 exact ⟨a1, a2, a3, b1, b2, b3, fun t m hm => (h.ow t m hm).other hg.size hk (by omega), h.sh.same hl hg.size, h.lq, h.ls, h.len, h.few, h.some⟩
end QAt
def Keep (who : Nat → Nat) (w : World) (who' : Nat → Nat) (w' : World) : Prop := w.heap.size ≤ w'.heap.size ∧ ∀ k, k < w.heap.size → who k = 11 → w'.heap[k]? = w.heap[k]? ∧ who' k = 11
namespace Keep
variable {who who1 who2 : Nat → Nat} {w w1 w2 : World}
theorem refl (who : Nat → Nat) (w : World) : Keep who w who w := ⟨Nat.le_refl _, fun _ _ h => ⟨rfl, h⟩⟩
theorem trans (h : Keep who w who1 w1) (k : Keep who1 w1 who2 w2) : Keep who w who2 w2 :=
 ⟨Nat.le_trans h.1 k.1, fun i hi hw => by
  have h1 := h.2 i hi hw
  have h2 := k.2 i (Nat.lt_of_lt_of_le hi h.1) h1.2
  exact ⟨h2.1.trans h1.1, h2.2⟩⟩
theorem of {s : Nat} (hs : w.heap.size ≤ w1.heap.size) (hk : ∀ k, k < w.heap.size → who k ≠ s → w1.heap[k]? = w.heap[k]?) (hne : s ≠ 11) : Keep who w (upO who s w.heap.size) w1 :=
 ⟨hs, fun k hk1 hw => ⟨hk k hk1 (by rw [hw]; omega), by rw [a0r hk1]; exact hw⟩⟩
theorem below (hb : Below w.heap.size w w1) (s : Nat) : Keep who w (upO who s w.heap.size) w1 := ⟨hb.size, fun k hk hw => ⟨hb.block k hk, by rw [a0r hk]; exact hw⟩⟩
end Keep
namespace QAt
variable {who : Nat → Nat} {w w1 : World} {base pq : Nat} {q : QSt}
theorem keepS (h : QAt who w base pq q) (hg : w.grownBy w1 (.some q.gs)) : Keep who w (upO who 0 w.heap.size) w1 :=
 Keep.of hg.size (fun k hk hne => hg.block k hk (fun e => hne (by injection e with e; rw [e]; exact h.wgs))) (by omega)
theorem keepL (h : QAt who w base pq q) {t : Nat} {m : Own1} (hm : q.ms[t]? = .some m) {v' : Value} (hT : Turn w w1 m.p m.v v') : Keep who w (upO who (t + 3) w.heap.size) w1 :=
 Keep.of hT.size ((h.ow t m hm).turnO hT) (by have := (List.getElem?_eq_some_iff.1 hm).1; have := h.few; omega)
theorem keepA (h : QAt who w base pq q) (hg : w.grownBy w1 (.some q.psh)) : Keep who w (upO who 2 w.heap.size) w1 :=
 Keep.of hg.size (fun k hk hne => hg.block k hk (fun e => hne (by injection e with e; rw [e]; exact h.sh.2))) (by omega)
end QAt
def allO (L : List One) : List E := (L.filter fun o => o.full).map fun o => ⟨o.key, o.id⟩
theorem b7l {L : List One} {k : Nat} {o : One} (h : L[k]? = some o) : allO (L.take (k + 1)) = if o.full = true then allO (L.take k) ++ [⟨o.key, o.id⟩] else allO (L.take k) := by
 obtain ⟨hlt, rfl⟩ := List.getElem?_eq_some_iff.1 h
 unfold allO
 rw [List.take_succ_eq_append_getElem hlt, List.filter_append, List.map_append]
 cases hf : (L[k]).full <;> simp [hf]
theorem a9v (L : List One) : (allO L).length ≤ L.length := by unfold allO; rw [List.length_map]; exact List.length_filter_le _ _
theorem b0o (p g : Nat) (L : List One) (w : World) (hs : SlotsAt w p g L) :
 Calls Tryz.prog 87 #[.pointer (some ⟨p, 0, none⟩)] w fun e w' => ∃ v0_ : Value, e = .returned (v0_) ∧ Kd.V k33 33 w' w.heap.size (fun k_ => (w.heap.size ≤ k_)) v0_ (allO L) ∧ Below w.heap.size w w' := by
 have hp := hs.head
 have hl : L.length ≤ 8 := hs.2.2.2
 have HS := za hs
 clear hs
 go_enter Tryz.func87, Tryz.ntmps87
 go_wp2
 go_loopw [3, 11] (fun v i wr => ∃ k : Nat, k ≤ L.length ∧ i = .int .i64 k ∧ Aside0 (Kd.R k33 33 wr w.heap.size (fun _ => True) v (allO (L.take k))) ∧ Aside0 (Below w.heap.size w wr)) (fun _ i _ => L.length - (intOf i).toNat)
 case atStart => exact ⟨0, Nat.zero_le _, rfl, ⟨Kd.R_nil _ _ _ _ _⟩, ⟨Below.refl _ _⟩⟩
 case round =>
  obtain ⟨k, hk, rfl, HR, HB⟩ := hrel
  by_cases hlt : k < L.length
  · obtain ⟨o, ho⟩ : ∃ o, L[k]? = some o := ⟨_, List.getElem?_eq_getElem hlt⟩
    obtain ⟨c0, c1, c2, c3⟩ := a4p (HS.out.below HB.out) ho
    have HO := za ho
    have HT := za (b7l ho)
    have hle : (allO (L.take k)).length ≤ 8 := Nat.le_trans (a9v _) (by rw [List.length_take]; omega)
    clear ho
    cases hf : o.full with
    | true =>
     rw [hf] at c2
     rw [hf, if_pos rfl] at HT
     clear hf
     go_wp2_with (at_builtin; go_loud (refine Kd.R_append k33 (w0 := w) w.heap.size rfl (.tmp 17) (.tmp 20) 35 33 (.agg #[(.int .u64 0), (.int .i64 0)]) 16 rfl Tryz.underlying35 a0m rfl (by decide) (by omega) u3 (allO (L.take k)) (⟨o.key, o.id⟩ : E) [.int .u64 o.key, .int .i64 o.id] (fun _ => True) (fun _ => False) rfl ?aX ?aP (fun _ hk => hk.elim) ?aF ?aO ?aB ?aS ?aL ?_; (case aX => simp [Act.eval]); (case aP => exact a0v _ _ _ (⟨o.key, o.id⟩ : E)); (case aF => exact fun _ _ => trivial); (case aO => exact Kd.R_alloc HR.out _); (case aB => exact below_alloc HB.out _); (case aS => exact (below_alloc HB.out _).size); (case aL => omega); intro v1 w1 ho1 hb1 hg1 hat1; have HR1 := za ho1; have HB1 := za hb1; clear ho1 hb1 hg1 hat1))
     go_roundw
     case rel => exact ⟨k + 1, by omega, by go_num, ⟨by rw [HT.out]; exact HR1.out⟩, HB1⟩
     case measure => simp [intOf]; omega
    | false =>
     rw [hf] at c2
     rw [hf, if_neg (by simp)] at HT
     clear hf
     go_wp2
     go_roundw
     case rel => exact ⟨k + 1, by omega, by go_num, ⟨by rw [HT.out]; exact Kd.R_alloc HR.out _⟩, ⟨below_alloc HB.out _⟩⟩
     case measure => simp [intOf]; omega
  · obtain rfl : k = L.length := by omega
    rw [List.take_length] at HR
    obtain ⟨A1, c1, e1⟩ := Kd.R_slice HR.out
    subst e1
    have HC1 := za (Kd.R_reads' HR.out).2.1
    have HM := za (show (allO L).length ≤ 9223372036854775807 from Nat.le_trans (a9v L) (by omega))
    go_wp2_with (first | (go_at_call 48; (refine (a5e A1 (allO L).length c1 _ HC1.out HM.out).mono ?_); rintro e w2 ⟨rfl, rfl⟩))
    go_ret
    exact ⟨_, rfl, Kd.RC_Vbase (Kd.RC_cut HR.out (Nat.le_refl _) HC1.out), HB.out⟩
theorem a7w {who : Nat → Nat} {w : World} {base pq : Nat} {q : QSt} (h : QAt who w base pq q) (t : Nat) (ht : t < q.ms.length) :
 Calls Tryz.prog 32 #[.pointer (some ⟨pq, 0, none⟩), .int .i64 t] w fun e w' => e = .returned (.bool true) ∧ w = w' := by
 obtain ⟨g, cap, hv, hc, _, _⟩ := h.lists
 have hp := h.c2
 rw [hv] at hp
 have d0 : decide ((t : Int) ≥ 0) = true := decide_eq_true (by omega)
 have d1 : decide ((0 : Int) ≤ (t : Int)) = true := decide_eq_true (by omega)
 have d2 : decide ((t : Int) < (q.ms.length : Int)) = true := decide_eq_true (by omega)
 clear h hv hc
 go_enter Tryz.func32, Tryz.ntmps32
 go_wp2
 go_ret
 exact ⟨rfl, rfl⟩
theorem c1s {who : Nat → Nat} {w : World} {base pq : Nat} {q : QSt} (h : QAt who w base pq q) :
 Calls Tryz.prog 45 #[.pointer (some ⟨pq, 0, none⟩)] w fun e w' => ∃ v0_ : Value, e = .returned v0_ ∧ Kd.V k33 33 w' w.heap.size (fun k_ => (w.heap.size ≤ k_)) v0_ (allO q.L) ∧ Below w.heap.size w w' := by
 have hp := h.c1
 have HS := za h.sl
 clear h
 go_enter Tryz.func45, Tryz.ntmps45
 go_wp2_with fail
 refine (b0o _ _ _ _ HS.out).mono ?_
 rintro e w1 ⟨v, rfl, hv, hb⟩
 have HV := za hv
 have HB := za hb
 clear hv hb
 go_wp2
 go_ret
 exact ⟨_, rfl, HV.out, HB.out⟩
theorem b9b {who : Nat → Nat} {w : World} {base pq : Nat} {q : QSt} (h : QAt who w base pq q) (hl : q.sb.length ≤ 1000) (ha : (allB q.sb).length ≤ 1000000) :
 Calls Tryz.prog 46 #[.pointer (some ⟨pq, 0, none⟩)] w fun e w' => ∃ v0_ : Value, e = .returned v0_ ∧ Kd.V k33 33 w' w.heap.size (fun k_ => (w.heap.size ≤ k_)) v0_ (a0b (allB q.sb)) ∧ Below w.heap.size w w' := by
 have hp := h.c3
 have HS := za h.sh.1
 have HA := za ha
 clear h ha
 go_enter Tryz.func46, Tryz.ntmps46
 go_wp2_with fail
 refine (@a8t (XO who 2 w.heap.size) _ _ _ _ _ _ HS.out hl HA.out).mono ?_
 rintro e w1 ⟨v, rfl, hv, hb⟩
 have HV := za hv
 have HB := za hb
 clear hv hb
 go_wp2
 go_ret
 exact ⟨_, rfl, HV.out, HB.out⟩
theorem c1j {who : Nat → Nat} {w : World} {base pq : Nat} {q : QSt} (h : QAt who w base pq q) (t : Nat) (m : Own1) (hm : q.ms[t]? = some m) (hg : ∀ b ∈ m.bs, Sound b) (hn : m.bs.length ≤ 100) (hl : (allB m.bs).length ≤ 1000000) :
 Calls Tryz.prog 28 #[.pointer (some ⟨pq, 0, none⟩), .int .i64 t] w fun e w' => ∃ v0_ : Value, e = .returned v0_ ∧ Kd.V k33 33 w' w.heap.size (fun k_ => (w.heap.size ≤ k_)) v0_ (a0b (allB m.bs)) ∧ Below w.heap.size w w' := by
 obtain ⟨g, cap, hv, hc, _, hr⟩ := h.lists
 have hp := h.c2
 rw [hv] at hp
 have hlt := (List.getElem?_eq_some_iff.1 hm).1
 have hr1 := hr t m hm
 have HT := za (a7w h t hlt)
 have HS := za (h.ow t m hm).1
 have HG := za hg
 have HL := za hl
 have i0 : (0 : Int) ≤ (t : Int) := by omega
 have i1 : (t : Int) < (q.ms.length : Int) := by omega
 clear h hv hc hr hg hl hm
 go_enter Tryz.func28, Tryz.ntmps28
 go_wp2_with fail
 refine HT.out.mono ?_
 rintro e w1 ⟨rfl, rfl⟩
 go_wp2_with fail
 refine (@a5r (XO who (t + 3) w.heap.size) _ _ _ _ _ HS.out HG.out hn HL.out).mono ?_
 rintro e w1 ⟨v, rfl, hv, hb⟩
 have HV := za hv
 have HB := za hb
 clear hv hb
 go_wp2
 go_ret
 exact ⟨_, rfl, HV.out, HB.out⟩
def a6x (who : Nat → Nat) (w w0 : World) (base pq : Nat) (q : QSt) (t : Nat) (m : Own1) (o : One) (w' : World) : Prop :=
  ∃ who' q', QAt who' w' base pq q' ∧ Below base w0 w' ∧ Keep who w who' w' ∧ q'.k = q.k ∧ q'.L = q.L.set t ⟨0, 0, false, IntKind.u64.wrap (o.ver + 1)⟩ ∧
    if (allB (putL ⟨o.key, o.id⟩ m.bs)).length ≤ q.k then q'.ms.map Own1.bs = (q.ms.map Own1.bs).set t (putL ⟨o.key, o.id⟩ m.bs) ∧ q'.sb = q.sb ∧ q'.ver = q.ver
    else q'.ms.map Own1.bs = (q.ms.map Own1.bs).set t [] ∧ q'.sb = addL (a0b (allB (putL ⟨o.key, o.id⟩ m.bs))) q.sb ∧ q'.ver = q.ver + 1
theorem b4p {who : Nat → Nat} {w : World} {base pq : Nat} {q : QSt} (w0 : World) (hB0 : Below base w0 w) (h : QAt who w base pq q) (t : Nat) (m : Own1) (o : One) (hm : q.ms[t]? = some m) (ho : q.L[t]? = some o) (hf : o.full = true)
 (hg : Good m.bs) (hl : (allB m.bs).length ≤ 900) (hv : 0 ≤ q.ver ∧ q.ver ≤ 1000000) (hsl : q.sb.length ≤ 900) (hsa : (allB q.sb).length ≤ 100000) (hok : ∀ b ∈ q.sb, okB b = true) :
 Calls Tryz.prog 9 #[.pointer (some ⟨pq, 0, none⟩), .int .i64 t] w fun e w' => e = .returned (.bool true) ∧ a6x who w w0 base pq q t m o w' := by
 have hp1 := h.c1
 have HQ := za h
 have hn := a2p hg (by omega)
 have hpa := (a8c m.bs ⟨o.key, o.id⟩).length_eq
 rw [List.length_cons] at hpa
 have HPL := za (show (putL ⟨o.key, o.id⟩ m.bs).length ≤ 100 ∧ (allB (putL ⟨o.key, o.id⟩ m.bs)).length ≤ 901 ∧ ∀ b ∈ putL ⟨o.key, o.id⟩ m.bs, Sound b from by
  have h1 := a9a hg ⟨o.key, o.id⟩ (by omega)
  have h2 := a2p h1 (by omega)
  exact ⟨by omega, by omega, h1.snd⟩)
 clear hpa
 have HG := za hg
 have HB0 := za hB0
 have HM := za hm
 have HO := za ho
 have HF := za hf
 have HK := za hok
 clear h hg hB0 hm ho hok hf
 go_enter Tryz.func9, Tryz.ntmps9
 go_wp2_with fail
 refine (a3q _ _ _ (t : Int) o _ HQ.out.sl (by omega) (by rw [Int.toNat_natCast]; exact HO.out)).mono ?_
 rintro e w1 ⟨rfl, hb1⟩
 rw [HF.out]
 have H1 := za (HQ.out.below hb1 11 (by have := HQ.out.few; omega))
 have HB1 := za (show Below base w0 w1 from below_then HB0.out (by have := HQ.out.lt; have := HQ.out.lq; omega) hb1)
 have HK1 := za (Keep.below (who := who) hb1 11)
 clear hp1 hb1
 have hp1 := fun o => pw_cell_below (below_alloc (Below.refl w1.heap.size w1) o) H1.out.c1
 have HB2 := za (show ∀ o, Below base w0 (w1.alloc o) from fun o => below_then HB1.out (by have := H1.out.lt; have := H1.out.lq; omega) (below_alloc (Below.refl w1.heap.size w1) o))
 have HA2 := za (show ∀ o, ∃ who2, QAt who2 (w1.alloc o) base pq q ∧ Keep who w who2 (w1.alloc o) from fun o => ⟨_, H1.out.below (below_alloc (Below.refl w1.heap.size w1) o) 11 (by have := H1.out.few; omega), HK1.out.trans (Keep.below (below_alloc (Below.refl w1.heap.size w1) o) 11)⟩)
 go_wp2_with fail
 obtain ⟨who2, h2, k2⟩ := HA2.out (.cells #[.int .u64 o.key, .int .i64 o.id] 33)
 have HK2 := za k2
 have HQ2 := za h2
 clear h2 k2
 refine (a8w _ _ _ (t : Int) o _ HQ2.out.sl (by omega) (by rw [Int.toNat_natCast]; exact HO.out) HF.out).mono ?_
 rintro e w3 ⟨rfl, hs3, hg3⟩
 have e0 : ∀ x, setO q.L (t : Int) x = q.L.set t x := fun x => by unfold setO; rw [Int.toNat_natCast]
 rw [e0] at hs3
 clear e0
 have HK3 := za (HK2.out.trans (HQ2.out.keepS hg3))
 have H3 := za (HQ2.out.turnS hs3 hg3 (by rw [List.length_set]))
 have HB3 := za (show Below base w0 w3 from pw_below_grown (HB2.out _) _ (by have := HQ2.out.lt; have := HQ2.out.lq; omega) hg3 (fun k hk => by injection hk with hk; have := HQ2.out.ls.2; omega))
 obtain ⟨g, cap, hv3, hc3, _, hr3⟩ := H3.out.lists
 have hp3 := fun o => pw_cell_below (below_alloc (Below.refl w3.heap.size w3) o) H3.out.c2
 have hx3 := fun o => pw_cell_below (below_alloc (Below.refl w3.heap.size w3) o) (hr3 t m HM.out)
 have he3 := fun (o : Obj) => heap_alloc_new w3 o
 rw [show ({ q with L := q.L.set t ⟨0, 0, false, IntKind.u64.wrap (o.ver + 1)⟩ } : QSt).vr = q.vr from rfl] at hv3
 have HA4 := za (show ∀ o', ∃ who4, QAt who4 (w3.alloc o').drew base pq { q with L := q.L.set t ⟨0, 0, false, IntKind.u64.wrap (o.ver + 1)⟩ } ∧ Keep who w who4 (w3.alloc o').drew from fun o' => ⟨_, H3.out.below (below_drew (below_alloc (Below.refl w3.heap.size w3) o')) 11 (by have := H3.out.few; omega), HK3.out.trans (Keep.below (below_drew (below_alloc (Below.refl w3.heap.size w3) o')) 11)⟩)
 have HV3 := za hv3
 have HLT := za (List.getElem?_eq_some_iff.1 HM.out).1
 have i0 : (0 : Int) ≤ (t : Int) := by omega
 have i1 : (t : Int) < (q.ms.length : Int) := by have := HLT.out; omega
 have i2 : t < q.ms.length := HLT.out
 clear hp1 hs3 hg3 hr3 hc3
 have hp4 : ∀ (o : Obj), (w3.alloc o).cell? ⟨pq, 2, none⟩ = some (.slice (some ⟨g, 0, none⟩) q.ms.length cap) := fun o => by rw [← HV3.out]; exact hp3 o
 clear hp3
 have b0 : (w3.alloc (.cells #[.int .u64 o.key, .int .i64 o.id] 33)).cell? ⟨w3.heap.size, 0, none⟩ = some (.int .u64 o.key) := by simp [World.cell?_alloc_new]
 have b1 : (w3.alloc (.cells #[.int .u64 o.key, .int .i64 o.id] 33)).cell? ⟨w3.heap.size, 1, none⟩ = some (.int .i64 o.id) := by simp [World.cell?_alloc_new]
 clear hv3 he3
 have HB4 := za (show ∀ o', Below base w0 (w3.alloc o').drew from fun o' => below_then HB3.out (by have := H3.out.lt; have := H3.out.lq; omega) (below_drew (below_alloc (Below.refl w3.heap.size w3) o')))
 go_upto_region 5 with fail
 go_cut [] (fun wx => ∃ (who5 : Nat → Nat) (v5 : Value), Aside0 (QAt who5 wx base pq { q with L := q.L.set t ⟨0, 0, false, IntKind.u64.wrap (o.ver + 1)⟩, ms := q.ms.set t ⟨m.p, v5, putL ⟨o.key, o.id⟩ m.bs⟩ } ∧ Below base w0 wx ∧ Keep who w who5 wx))
 case first =>
  obtain ⟨who4, h4, k4⟩ := HA4.out (.cells #[.int .u64 o.key, .int .i64 o.id] 33)
  have H4 := za h4
  have HK4 := za k4
  clear h4 k4
  go_region_with (first
   | (go_at_call 36; go_loud (refine (@b9v (XO who4 (t + 3) (w3.alloc (.cells #[.int .u64 o.key, .int .i64 o.id] 33)).drew.heap.size) base m.p m.v m.bs ⟨o.key, o.id⟩ (w3.alloc (.cells #[.int .u64 o.key, .int .i64 o.id] 33)).drew (H4.out.ow t m HM.out).1 HG.out (by omega) (by omega)).mono ?_; rintro x w5 ⟨rfl, v5, hl5, ht5⟩; have H5 := za (H4.out.turnL HM.out hl5 ht5); have HT5 := za ht5; clear hl5 ht5)))
  all_goals (go_wp2_with fail)
  all_goals go_meet
  all_goals exact ⟨_, v5, ⟨H5.out, HT5.out.below (HB4.out _) (@LsmAt.lo (XO who4 (t + 3) _) _ _ _ _ _ (H4.out.ow t m HM.out).1) (by have := H4.out.lt; have := H4.out.lq; omega) (fun k hk => (@LsmAt.own (XO who4 (t + 3) _) _ _ _ _ _ (H4.out.ow t m HM.out).1 k hk).1), HK4.out.trans (H4.out.keepL HM.out HT5.out)⟩⟩
 case rest =>
  obtain ⟨who5, v5, HC⟩ := hcut
  have hm5 : (q.ms.set t ⟨m.p, v5, putL ⟨o.key, o.id⟩ m.bs⟩)[t]? = some ⟨m.p, v5, putL ⟨o.key, o.id⟩ m.bs⟩ := List.getElem?_set_self HLT.out
  have HM5 := za hm5
  obtain ⟨g5, cap5, hv5, hc5, _, hr5⟩ := HC.out.1.lists
  have hv5 : q.vr = .slice (some ⟨g5, 0, none⟩) (q.ms.set t ⟨m.p, v5, putL ⟨o.key, o.id⟩ m.bs⟩).length cap5 := hv5
  rw [List.length_set] at hv5
  have HV5 := za hv5
  have hx5 := hr5 t _ hm5
  have hq2 := HC.out.1.c2
  have hq0 := HC.out.1.c0
  have hq3 := HC.out.1.c3
  have hq2 : wc.cell? ⟨pq, 2, none⟩ = some (.slice (some ⟨g5, 0, none⟩) q.ms.length cap5) := by rw [← HV5.out]; exact hq2
  clear hm5 hv5 hc5 hr5
  have HCD := za (show ∃ who6, QAt who6 wc.drew base pq { q with L := q.L.set t ⟨0, 0, false, IntKind.u64.wrap (o.ver + 1)⟩, ms := q.ms.set t ⟨m.p, v5, putL ⟨o.key, o.id⟩ m.bs⟩ } ∧ Keep who w who6 wc.drew from ⟨_, HC.out.1.below (below_drew (Below.refl wc.heap.size wc)) 11 (by have := HC.out.1.few; omega), HC.out.2.2.trans (Keep.below (below_drew (Below.refl wc.heap.size wc)) 11)⟩)
  have HBD := za (show Below base w0 wc.drew from below_drew HC.out.2.1)
  go_upto_region 6 with fail
  go_cut [53] (fun s53 wx => s53 = .bool (decide (q.k < (allB (putL ⟨o.key, o.id⟩ m.bs)).length)) ∧ Aside0 (∃ who6, QAt who6 wx base pq { q with L := q.L.set t ⟨0, 0, false, IntKind.u64.wrap (o.ver + 1)⟩, ms := q.ms.set t ⟨m.p, v5, putL ⟨o.key, o.id⟩ m.bs⟩ } ∧ Keep who w who6 wx) ∧ Aside0 (Below base w0 wx))
  case first =>
   obtain ⟨who6, h6, k6⟩ := HCD.out
   have H6 := za h6
   have HK6 := za k6
   clear h6 k6
   go_region_with (first
    | (go_at_call 37; go_loud (refine (@c0z (XO who6 (t + 3) wc.drew.heap.size) base m.p v5 (putL ⟨o.key, o.id⟩ m.bs) wc.drew (H6.out.ow t _ HM5.out).1 HPL.out.1 (by have := HPL.out.2.1; omega)).mono ?_; rintro x w7 ⟨rfl, hb7⟩; have H7 := za (H6.out.below hb7 11 (by have := H6.out.few; omega)); have HB7 := za (below_then HBD.out (by have := H6.out.lt; have := H6.out.lq; omega) hb7); have HK7 := za (HK6.out.trans (Keep.below hb7 11)); have hq0 := H7.out.c0; clear hb7)))
   all_goals (go_wp2_with fail)
   all_goals go_meet
   all_goals exact ⟨rfl, ⟨_, H7.out, HK7.out⟩, HB7⟩
  case rest =>
   obtain ⟨rfl, HC7, HB7⟩ := hcut
   clear HC HCD HBD hq0 hq2 hq3 hx5 HV5
   obtain ⟨who7, h7, k7⟩ := HC7.out
   have H7 := za h7
   have HK7 := za k7
   clear h7 k7 HC7
   by_cases hk : (allB (putL ⟨o.key, o.id⟩ m.bs)).length ≤ q.k
   · have d0 : decide (q.k < (allB (putL ⟨o.key, o.id⟩ m.bs)).length) = false := decide_eq_false (by omega)
     have HKK := za hk
     have hk2 : ¬ q.k < (allB (putL ⟨o.key, o.id⟩ m.bs)).length := by omega
     have HE := za (show a6x who w w0 base pq q t m o wc from ⟨who7, _, H7.out, HB7.out, HK7.out, rfl, rfl, by rw [if_pos hk]; exact ⟨by rw [List.map_set], rfl, rfl⟩⟩)
     clear hk
     rw [d0]
     clear d0
     go_wp2_with fail
     go_ret
     exact ⟨rfl, HE.out⟩
   · have d0 : decide (q.k < (allB (putL ⟨o.key, o.id⟩ m.bs)).length) = true := decide_eq_true (by omega)
     have HKK := za hk
     clear hk
     rw [d0]
     clear d0
     obtain ⟨g7, cap7, hv7, hc7, _, hr7⟩ := H7.out.lists
     have hv7 : q.vr = .slice (some ⟨g7, 0, none⟩) (q.ms.set t ⟨m.p, v5, putL ⟨o.key, o.id⟩ m.bs⟩).length cap7 := hv7
     rw [List.length_set] at hv7
     have HV7 := za hv7
     have hx7 := hr7 t _ HM5.out
     have hq2 : wc.cell? ⟨pq, 2, none⟩ = some (.slice (some ⟨g7, 0, none⟩) q.ms.length cap7) := by rw [← HV7.out]; exact H7.out.c2
     have hq3 := H7.out.c3
     have HCD := za (show ∃ who8, QAt who8 wc.drew base pq { q with L := q.L.set t ⟨0, 0, false, IntKind.u64.wrap (o.ver + 1)⟩, ms := q.ms.set t ⟨m.p, v5, putL ⟨o.key, o.id⟩ m.bs⟩ } ∧ Keep who w who8 wc.drew from ⟨_, H7.out.below (below_drew (Below.refl wc.heap.size wc)) 11 (by have := H7.out.few; omega), HK7.out.trans (Keep.below (below_drew (Below.refl wc.heap.size wc)) 11)⟩)
     have HBD := za (show Below base w0 wc.drew from below_drew HB7.out)
     clear hv7 hc7 hr7
     go_upto_region 7 with fail
     go_cut [] (fun wx => Aside0 (a6x who w w0 base pq q t m o wx))
     case first =>
      obtain ⟨who8, h8, k8⟩ := HCD.out
      have H8 := za h8
      have HK8 := za k8
      clear h8 k8
      go_region_with (first
       | (go_at_call 39; go_loud (refine (@b4b (XO who8 (t + 3) wc.drew.heap.size) base m.p v5 (putL ⟨o.key, o.id⟩ m.bs) wc.drew (H8.out.ow t _ HM5.out).1 HPL.out.2.2 HPL.out.1 (by have := HPL.out.2.1; omega)).mono ?_; rintro x w9 ⟨v9, rfl, hv9, hl9, ht9⟩; obtain ⟨A9, c9, rfl⟩ := Kd.V_slice hv9; have H9 := za (H8.out.turnL HM5.out hl9 ht9); have HK9 := za (HK8.out.trans (H8.out.keepL HM5.out ht9)); have HV9 := za hv9; have HB9 := za (ht9.below HBD.out (@LsmAt.lo (XO who8 (t + 3) _) _ _ _ _ _ (H8.out.ow t _ HM5.out).1) (by have := H8.out.lt; have := H8.out.lq; omega) (fun k hk => (@LsmAt.own (XO who8 (t + 3) _) _ _ _ _ _ (H8.out.ow t _ HM5.out).1 k hk).1)); have hq3 := H9.out.c3; clear hv9 hl9 ht9))
       | (go_at_call 38; go_loud (refine (@sh_add (XO _ 2 w9.heap.size) base q.psh q.ver q.vs q.sb A9 c9 (a0b (allB (putL ⟨o.key, o.id⟩ m.bs))) w9 H9.out.sh.1 hv (Kd.V_reads' HV9.out).2.2 (Kd.V_reads' HV9.out).2.1 (by intro e; have h1 := congrArg List.length e; rw [a0i, List.length_nil] at h1; have := HKK.out; omega) hsl (by rw [a0i]; have := HPL.out.2.1; omega) HK.out).mono ?_; rintro x w10 ⟨rfl, v10, hs10, hg10⟩; have H10 := za (H9.out.turnA hs10 hg10); have HK10 := za (HK9.out.trans (H9.out.keepA hg10)); have HB10 := za (pw_below_grown HB9.out _ (by have := H9.out.lt; have := H9.out.lq; omega) hg10 (fun k hk => by injection hk with hk; rw [← hk]; exact @ShAt.lo (XO _ 2 _) _ _ _ _ _ _ H9.out.sh.1)); clear hs10 hg10)))
      all_goals (go_wp2_with fail)
      all_goals go_meet
      all_goals exact ⟨_, _, H10.out, HB10.out, HK10.out, rfl, rfl, by rw [if_neg HKK.out]; exact ⟨by rw [List.map_set, List.map_set, List.set_set], rfl, rfl⟩⟩
     case rest =>
      have HE := hcut
      go_wp2_with fail
      go_ret
      exact ⟨rfl, HE.out⟩
theorem c1z {who : Nat → Nat} {w : World} {base pq : Nat} {q : QSt} (h : QAt who w base pq q) (t : Nat) (o : One) (ho : q.L[t]? = some o) (hf : o.full = false) :
 Calls Tryz.prog 9 #[.pointer (some ⟨pq, 0, none⟩), .int .i64 t] w fun e w' => e = .returned (.bool false) ∧ Below w.heap.size w w' := by
 have hp1 := h.c1
 have HQ := za h
 have HO := za ho
 have HF := za hf
 clear h ho hf
 go_enter Tryz.func9, Tryz.ntmps9
 go_wp2_with fail
 refine (a3q _ _ _ (t : Int) o _ HQ.out.sl (by omega) (by rw [Int.toNat_natCast]; exact HO.out)).mono ?_
 rintro e w1 ⟨rfl, hb1⟩
 rw [HF.out]
 have HB1 := za (below_then hb1 hb1.size (below_alloc (Below.refl w1.heap.size w1) (.cells #[.int .u64 o.key, .int .i64 o.id] 33)))
 clear hb1
 go_wp2_with fail
 go_ret
 exact ⟨rfl, HB1.out⟩
theorem b7d {who : Nat → Nat} {w : World} {base pq : Nat} {q : QSt} (w0 : World) (hB0 : Below base w0 w) (h : QAt who w base pq q) (t : Nat) (ht : t < q.ms.length) (key id : Int) (Post : QSt → Prop) (o' : One → Prop)
 (hS : ∀ who W, QAt who W base pq q → Below base w0 W → Calls Tryz.prog 9 #[.pointer (some ⟨pq, 0, none⟩), .int .i64 t] W fun e w' => ∃ b : Bool, e = .returned (.bool b) ∧ ∃ who' q' x, QAt who' w' base pq q' ∧ Below base w0 w' ∧ Keep who W who' w' ∧ Post q' ∧ q'.L[t]? = some x ∧ x.full = false ∧ o' x) :
 Calls Tryz.prog 8 #[.pointer (some ⟨pq, 0, none⟩), .int .i64 t, .agg #[.int .u64 key, .int .i64 id]] w fun e w' => e = .returned (.int .i64 0) ∧ ∃ who' q' x, QAt who' w' base pq { q' with L := q'.L.set t ⟨key, id, true, IntKind.u64.wrap (x.ver + 1)⟩ } ∧ Below base w0 w' ∧ Keep who w who' w' ∧ Post q' ∧ q'.L[t]? = some x ∧ o' x := by
 obtain ⟨W, hW⟩ : ∃ W, W = w.alloc (.cells #[.int .u64 key, .int .i64 id] 33) := ⟨_, rfl⟩
 have h1 : QAt (upO who 11 w.heap.size) W base pq q := by
  rw [hW]
  exact h.below (below_alloc (Below.refl w.heap.size w) _) 11 (by have := h.few; omega)
 have HKW := za (show Keep who w (upO who 11 w.heap.size) W by
  rw [hW]
  exact Keep.below (below_alloc (Below.refl w.heap.size w) _) 11)
 have HWH := za (show upO who 11 w.heap.size w.heap.size = 11 from a1r (Nat.le_refl _))
 have HB1 := za (show Below base w0 W by
  rw [hW]
  exact below_then hB0 (by have := h.lt; have := h.lq; omega) (below_alloc (Below.refl w.heap.size w) _))
 have H1 := za h1
 have hx : W.heap[w.heap.size]? = some (.cells #[.int .u64 key, .int .i64 id] 33 (0, 0)) := by rw [hW]; exact heap_alloc_new w _
 have HX := za hx
 have HT := za (a7w h1 t ht)
 have HS := za (hS _ _ h1 HB1.out)
 have HW := za hW
 have HLW := za (show w.heap.size < W.heap.size from (Array.getElem?_eq_some_iff.1 hx).1)
 clear h h1 hx hB0 hS hW
 go_enter Tryz.func8, Tryz.ntmps8
 go_wp2_with fail
 rw [← HW.out]
 refine HT.out.mono ?_
 rintro e w1 ⟨rfl, rfl⟩
 go_wp2_with fail
 refine HS.out.mono ?_
 rintro e w2 ⟨b, rfl, who', q', x, h2, hb2, hk2, hp2, hx2, hf2, ho2⟩
 have hbx : w2.heap[w.heap.size]? = some (.cells #[.int .u64 key, .int .i64 id] 33 (0, 0)) := (hk2.2 _ HLW.out HWH.out).1.trans HX.out
 have b0 : w2.cell? ⟨w.heap.size, 0, none⟩ = some (.int .u64 key) := by simp [World.cell?, hbx]
 have b1 : w2.cell? ⟨w.heap.size, 1, none⟩ = some (.int .i64 id) := by simp [World.cell?, hbx]
 have hc1 := h2.c1
 have H2 := za h2
 have HD := za (show ∃ who3, QAt who3 w2.drew base pq q' ∧ Keep who w who3 w2.drew from ⟨_, h2.below (below_drew (Below.refl w2.heap.size w2)) 11 (by have := h2.few; omega), (HKW.out.trans hk2).trans (Keep.below (below_drew (Below.refl w2.heap.size w2)) 11)⟩)
 have HBD := za (show Below base w0 w2.drew from below_drew hb2)
 have HP2 := za hp2
 have HX2 := za hx2
 have HF2 := za hf2
 have HO2 := za ho2
 clear h2 hb2 hk2 hp2 hx2 hf2 ho2 hbx
 obtain ⟨who3, h3, k3⟩ := HD.out
 have H3 := za h3
 have HK3 := za k3
 clear h3 k3
 go_wp2_with fail
 go_region_with (first
  | (go_at_call 33; go_loud (refine (b4m q'.ps q'.gs q'.L (t : Int) key id x w2.drew H3.out.sl (by omega) (by rw [Int.toNat_natCast]; exact HX2.out) HF2.out).mono ?_; rintro e w4 ⟨rfl, hs4, hg4⟩; have H4 := za (H3.out.turnS (L' := q'.L.set t ⟨key, id, true, IntKind.u64.wrap (x.ver + 1)⟩) (by have e0 : ∀ y, setO q'.L (t : Int) y = q'.L.set t y := (fun y => by unfold setO; rw [Int.toNat_natCast]); rw [← e0]; exact hs4) hg4 (by rw [List.length_set])); have HB4 := za (pw_below_grown HBD.out _ (by have := H3.out.lt; have := H3.out.lq; omega) hg4 (fun k hk => by injection hk with hk; rw [← hk]; exact H3.out.ls.2)); have HK4 := za (HK3.out.trans (H3.out.keepS hg4)); clear hs4 hg4)))
 all_goals (go_wp2_with fail)
 all_goals go_ret
 all_goals exact ⟨rfl, _, q', x, H4.out, HB4.out, HK4.out, HP2.out, HX2.out, HO2.out⟩
theorem b4r (who : Nat → Nat) (t base : Nat) (w : World) (hb : base ≤ w.heap.size) :
 Calls Tryz.prog 31 #[] w fun e w' => e = .returned (.pointer (some ⟨w.heap.size, 0, none⟩)) ∧ LsmO (upO who t w.heap.size) t w' base w.heap.size (.slice none 0 0) [] ∧ Below w.heap.size w w' := by
 refine (@b8f (XO who t w.heap.size) w (Nat.le_refl _)).mono ?_
 rintro e w' ⟨rfl, h1, h2⟩
 refine ⟨rfl, ⟨?_, a1r (Nat.le_refl _)⟩, h2⟩
 exact @LsmAt.mk (XO (upO who t w.heap.size) t w'.heap.size) _ _ _ _ _ (@LsmAt.hd (XO who t w.heap.size) _ _ _ _ _ h1) (Kd.N_nil _ _ _ _ _) hb (Nat.le_refl _)
theorem b5k (who : Nat → Nat) (t base : Nat) (w : World) (hb : base ≤ w.heap.size) :
 Calls Tryz.prog 30 #[] w fun e w' => e = .returned (.pointer (some ⟨w.heap.size, 0, none⟩)) ∧ ShO (upO who t w.heap.size) t w' base w.heap.size 0 (.slice none 0 0) [] ∧ Below w.heap.size w w' := by
 refine (@sh_new (XO who t w.heap.size) w (Nat.le_refl _)).mono ?_
 rintro e w' ⟨rfl, h1, h2⟩
 refine ⟨rfl, ⟨?_, a1r (Nat.le_refl _)⟩, h2⟩
 exact @ShAt.mk (XO (upO who t w.heap.size) t w'.heap.size) _ _ _ _ _ _ (@ShAt.hd (XO who t w.heap.size) _ _ _ _ _ _ h1) (Kd.V_nil _ _ _ _ _) hb (Nat.le_refl _)
end Go.Proofs.YthghkglkifeagaaGreat.V
