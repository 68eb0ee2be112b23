/- NamesNumbers: the list of pairs. -/
import Derived.Test.YtpbcfolgogfejaaDoorRows
import Derived.WalkKit
import Derived.ProofKit
import Derived.Handy
import Derived.Great.BuildSlice
set_option linter.unusedVariables false
set_option linter.unusedSimpArgs false
namespace Go.Proofs.YtpbcfolgogfejaaDoor
open Go.RowKit
/-- The document's numbers, in the law's order. -/
def vals : List Int := [0, 1, 2, 3, 6, 7, 8, 9, 60, 65, 8, 16, 64, 200, 16, 7, 0, 1, 2, 3, 4, 5, 6, 1, 2, 3, 4, 0, 1, 2, 3, 1, 2, 3, 4, 5, 0, 1, 2, 0, 1, 2, 3, 4, 5, 6, 1, 2, 3, 4, 5, 6, 7, 8, 9, 10, 1, 2, 3, 4, 5, 6, 7, 8, 9, 10, 11, 12, 13, 14]
def cellsOf2 : List Int → List Value
  | [] => []
  | v :: l => .int .i64 v :: .int .i64 v :: cellsOf2 l
set_option maxRecDepth 100000 in
set_option maxHeartbeats 8000000 in
theorem all_ (w : World) : Calls Tryd.prog 4 #[] w fun e w' => e = .returned (.slice (some ⟨w.heap.size, 0, none⟩) 70 70) ∧ w' = w.alloc (.cells (cellsOf2 vals).toArray 25) := by
  have hi : (Tryd.prog.info? 25).map (fun i => (i.zero, i.size)) = some (some (.agg #[.int .i64 0, .int .i64 0]), 2) := by kernel_rfl
  obtain ⟨ie, hie, hzz⟩ := Option.map_eq_some_iff.1 hi
  simp only [Prod.mk.injEq] at hzz
  obtain ⟨hz, hs⟩ := hzz
  clear hi
  go_enter Tryd.func4, Tryd.ntmps4
  go_wp2
  refine wp_buildSlice 22 25 70 _ rfl (cellsOf2 vals).toArray ie _ Tryd.underlying22 hie hz (by rw [hs]; decide) (by rw [hs]; decide) (by rw [hs]; kernel_rfl) ?_
  go_wp2
  go_ret
  exact ⟨rfl, rfl⟩
end Go.Proofs.YtpbcfolgogfejaaDoor
