/- NamesNumbers: the walk. -/
import Derived.Test.YtpbcfolgogfejaaDoorNA
import Derived.Test.YtpbcfolgogfejaaDoorNE
import Derived.Below
import Derived.OwnWalk
import Derived.Deep.LoopGhost
import Derived.Deep.QuietTactic
import Derived.BigQuiet
import Derived.RowKit3
import Derived.RowKit
set_option linter.unusedVariables false
set_option linter.unusedSimpArgs false
namespace Go.Proofs.YtpbcfolgogfejaaDoor
open Go.RowKit
theorem cells2_len (l : List Int) : (cellsOf2 l).length = l.length * 2 := by
  induction l with
  | nil => rfl
  | cons a t ih => simp only [cellsOf2, List.length_cons, ih]; omega
theorem cells2_get (l : List Int) : ∀ (i : Nat) (v : Int), l[i]? = some v → (cellsOf2 l)[i * 2]? = some (.int .i64 v) ∧ (cellsOf2 l)[i * 2 + 1]? = some (.int .i64 v) := by
  induction l with
  | nil => intro i v h; simp at h
  | cons a t ih =>
    intro i v h
    cases i with
    | zero => simp at h; subst h; exact ⟨rfl, rfl⟩
    | succ i =>
      have := ih i v (by simpa using h)
      rw [show (i + 1) * 2 = i * 2 + 2 by omega, show i * 2 + 2 + 1 = i * 2 + 1 + 2 by omega]
      exact this
theorem vals_len : vals.length = 70 := rfl
/-- A fact kept aside: the walk's own simp does not see it. -/
structure Apart1 (p : Prop) : Prop where
  out : p
theorem new_block (w : World) (cs : Array Value) (t : TypeId) : (w.alloc (.cells cs t)).heap[w.heap.size]? = some (.cells cs t (0, 0)) := by
  show (w.heap.push (.cells cs t))[w.heap.size]? = _
  rw [Array.getElem?_push_size]
theorem step1 {w W w2 : World} (h : Below w.heap.size w W) (k : Below W.heap.size W w2) : Below w.heap.size w w2 :=
  h.trans ⟨k.os, k.tape, k.output, k.size, fun i hi => k.block i (Nat.lt_of_lt_of_le hi h.size)⟩
theorem below_cell1 {w w1 : World} (hb : Below w.heap.size w w1) {a : Addr} {v : Value} (h : w.cell? a = some v) : w1.cell? a = some v := by
  have hlt := World.block_lt_of_cell? w _ h
  have := hb.block a.block hlt
  rw [← h]
  simp [World.cell?, this]
set_option maxRecDepth 100000 in
set_option maxHeartbeats 4000000 in
theorem law_ (w : World) : Calls Tryd.prog 3 #[] w fun e w' => e = .returned (.bool true) ∧ Below w.heap.size w w' := by
  go_enter Tryd.func3, Tryd.ntmps3
  go_wp2_with fail
  refine (all_ w).mono ?_
  rintro x w1 ⟨rfl, hw1⟩
  have HX := Apart1.mk (show w1.heap[w.heap.size]? = some (.cells (cellsOf2 vals).toArray 25 (0, 0)) by rw [hw1]; exact new_block w _ 25)
  have HB := Apart1.mk (show Below w.heap.size w w1 by rw [hw1]; exact (Below.refl w.heap.size w).alloc (Nat.le_refl _) _)
  have HC : Apart1 (∀ (i : Nat) (v : Int), vals[i]? = some v → w1.cell? ⟨w.heap.size, i * 2, none⟩ = some (.int .i64 v) ∧ w1.cell? ⟨w.heap.size, i * 2 + 1, none⟩ = some (.int .i64 v)) := ⟨fun i v h => by
    have h2 := cells2_get vals i v h
    simp only [World.cell?, HX.out]
    exact ⟨by simpa using h2.1, by simpa using h2.2⟩⟩
  clear hw1
  obtain ⟨N, hN⟩ : ∃ N, N = w.heap.size := ⟨_, rfl⟩
  rw [← hN] at HX HC ⊢
  clear hN
  go_wp2_with fail
  go_loopw [2] (fun s2 wr => ∃ i : Nat, s2 = .int .i64 i ∧ i ≤ 70 ∧ Apart1 (Below w1.heap.size w1 wr)) (fun i _ => 70 - (intOf i).toNat)
  case atStart => exact ⟨0, rfl, by omega, ⟨Below.refl _ _⟩⟩
  case round =>
    obtain ⟨i, rfl, hi, HR⟩ := hrel
    by_cases hlt : i < 70
    · obtain ⟨v, hv⟩ : ∃ v, vals[i]? = some v := ⟨_, List.getElem?_eq_getElem (show i < vals.length from hlt)⟩
      have y0 := below_cell1 HR.out (HC.out i v hv).1
      have y1 := below_cell1 HR.out (HC.out i v hv).2
      have hi2 : (i : Int) < 70 := by omega
      clear hv
      go_wp2
      go_quiet (fail)
      go_wp2
      go_roundw
      case rel => exact ⟨i + 1, by go_num, by omega, ⟨by first | exact HR.out | exact HR.out.drew | exact ⟨HR.out.os, HR.out.tape, HR.out.output, HR.out.size, HR.out.block⟩⟩⟩
      case measure => simp [intOf]; omega
    · obtain rfl : i = 70 := by omega
      go_wp2_with fail
      refine (error65 _).mono ?_
      rintro x w2 ⟨rfl, hb2⟩
      go_wp2_with fail
      refine (error0 _).mono ?_
      rintro x w3 ⟨rfl, hb3⟩
      have HE := Apart1.mk (step1 (step1 (step1 HB.out HR.out) hb2) hb3)
      go_wp2
      go_ret
      exact ⟨by first | rfl | simp, HE.out⟩
end Go.Proofs.YtpbcfolgogfejaaDoor
