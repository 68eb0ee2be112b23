/-
  No cell of these rows narrows 'for every input' (looked for: loops, veiled, ifaces, maps, wideKeys, modest, calm, conditions, laid).
  DERIVED. THE GIVEN ROWS OF THIS SEAT. 5 by the template 'for every input the law returns true; each argument reads behind the call as it read before'; 0 by the template 'total and deterministic' (their statements: YtoohkcffkhnodaaTotals.lean).
  GIVEN WITH THE SEED: the statements are not yours to turn. If you find one false, say at which input.
  Laid BY PROGRAM, IN A SANDBOX (cutbox-rows.mjs): the forced cells as the released guide's own fill.sh prints them over the translation 39b732cd2e4e9f65… (all of the seat's roots in one cut). By AI agents, Wed Nov 11 2026. No macro, syntax, notation, axiom, sorry.
-/
import Derived.Test.YtoohkcffkhnodaaChecked
import GoSem.Claim
import GoSem.ClaimJoined
import GoSem.ClaimMapViews
import Derived.JoinedTies
import Derived.KernelRfl
namespace Go.Proofs.Ytoohkcffkhnodaa
/- THE CELL 'sum', in the pinned program and in every row, IS THE sha256 OF THE DUMP (.gsa) THAT YtoohkcffkhnodaaProg.lean LOADS. Nothing in Lean hashes anything: it is a label: what it is worth is what the hold of that sum in a sandbox is worth. -/
noncomputable def Try.pinned : Pinned := { name := "ytoohkcffkhnodaa", sum := "39b732cd2e4e9f65763098d8161d14e42b43f2b4f359bcb4f24d4b9665e5cf73", checked := Try.checked }
namespace Rows
def none {H : Type} : Left H := { results := [], args := [] }

/-- 'vergerlaw7.LsmCounts': WHATEVER THE INPUT: true; the input reads as it did. -/
def lsmCountsSpec : ChangeSpec := { name := "lsmCounts", fn := fun _ => fun
  | [d1, d2] => { results := [.lit (.bool true)], args := [d1, d2] }
  | _ => none }
def lsmCountsRow : OpenClaim := { program := "ytoohkcffkhnodaa", sum := "39b732cd2e4e9f65763098d8161d14e42b43f2b4f359bcb4f24d4b9665e5cf73", func := "verger/vergerlaw7.LsmCounts", spec := "lsmCounts", inPlace := ["slices.overlaps[verger/block.Block]"], unfollowed := true, recurses := true, apart := false }
def LsmCountsSaid : Prop := lsmCountsRow.holds Try.pinned (OpenSpec.ofChange lsmCountsSpec)

/-- ITS FALSE NEIGHBOUR: 'it returns false'. Refute it at one input. -/
def lsmCountsWrong : ChangeSpec := { name := "lsmCounts", fn := fun _ => fun
  | [d1, d2] => { results := [.lit (.bool false)], args := [d1, d2] }
  | _ => none }
def LsmCountsWrongFalsely : Prop := lsmCountsRow.holds Try.pinned (OpenSpec.ofChange lsmCountsWrong)

/-- 'vergerlaw7.LsmDrains': WHATEVER THE INPUT: true; the input reads as it did. -/
def lsmDrainsSpec : ChangeSpec := { name := "lsmDrains", fn := fun _ => fun
  | [d1, d2] => { results := [.lit (.bool true)], args := [d1, d2] }
  | _ => none }
def lsmDrainsRow : OpenClaim := { program := "ytoohkcffkhnodaa", sum := "39b732cd2e4e9f65763098d8161d14e42b43f2b4f359bcb4f24d4b9665e5cf73", func := "verger/vergerlaw7.LsmDrains", spec := "lsmDrains", inPlace := ["slices.overlaps[verger/block.Block]"], unfollowed := true, recurses := true, apart := false }
def LsmDrainsSaid : Prop := lsmDrainsRow.holds Try.pinned (OpenSpec.ofChange lsmDrainsSpec)

/-- ITS FALSE NEIGHBOUR: 'it returns false'. Refute it at one input. -/
def lsmDrainsWrong : ChangeSpec := { name := "lsmDrains", fn := fun _ => fun
  | [d1, d2] => { results := [.lit (.bool false)], args := [d1, d2] }
  | _ => none }
def LsmDrainsWrongFalsely : Prop := lsmDrainsRow.holds Try.pinned (OpenSpec.ofChange lsmDrainsWrong)

/-- 'vergerlaw7.LsmSorts': WHATEVER THE INPUT: true; the input reads as it did. -/
def lsmSortsSpec : ChangeSpec := { name := "lsmSorts", fn := fun _ => fun
  | [d] => { results := [.lit (.bool true)], args := [d] }
  | _ => none }
def lsmSortsRow : OpenClaim := { program := "ytoohkcffkhnodaa", sum := "39b732cd2e4e9f65763098d8161d14e42b43f2b4f359bcb4f24d4b9665e5cf73", func := "verger/vergerlaw7.LsmSorts", spec := "lsmSorts", inPlace := ["slices.overlaps[verger/block.Block]"], unfollowed := true, recurses := true, apart := false }
def LsmSortsSaid : Prop := lsmSortsRow.holds Try.pinned (OpenSpec.ofChange lsmSortsSpec)

/-- ITS FALSE NEIGHBOUR: 'it returns false'. Refute it at one input. -/
def lsmSortsWrong : ChangeSpec := { name := "lsmSorts", fn := fun _ => fun
  | [d] => { results := [.lit (.bool false)], args := [d] }
  | _ => none }
def LsmSortsWrongFalsely : Prop := lsmSortsRow.holds Try.pinned (OpenSpec.ofChange lsmSortsWrong)

/-- 'vergerlaw7.LsmHalves': WHATEVER THE INPUT: true; the input reads as it did. -/
def lsmHalvesSpec : ChangeSpec := { name := "lsmHalves", fn := fun _ => fun
  | [d1, d2] => { results := [.lit (.bool true)], args := [d1, d2] }
  | _ => none }
def lsmHalvesRow : OpenClaim := { program := "ytoohkcffkhnodaa", sum := "39b732cd2e4e9f65763098d8161d14e42b43f2b4f359bcb4f24d4b9665e5cf73", func := "verger/vergerlaw7.LsmHalves", spec := "lsmHalves", inPlace := ["slices.overlaps[verger/block.Block]"], unfollowed := true, recurses := true, apart := false }
def LsmHalvesSaid : Prop := lsmHalvesRow.holds Try.pinned (OpenSpec.ofChange lsmHalvesSpec)

/-- ITS FALSE NEIGHBOUR: 'it returns false'. Refute it at one input. -/
def lsmHalvesWrong : ChangeSpec := { name := "lsmHalves", fn := fun _ => fun
  | [d1, d2] => { results := [.lit (.bool false)], args := [d1, d2] }
  | _ => none }
def LsmHalvesWrongFalsely : Prop := lsmHalvesRow.holds Try.pinned (OpenSpec.ofChange lsmHalvesWrong)

/-- 'vergerlaw7.LsmPlays': WHATEVER THE INPUT: true; the input reads as it did. -/
def lsmPlaysSpec : ChangeSpec := { name := "lsmPlays", fn := fun _ => fun
  | [d] => { results := [.lit (.bool true)], args := [d] }
  | _ => none }
def lsmPlaysRow : OpenClaim := { program := "ytoohkcffkhnodaa", sum := "39b732cd2e4e9f65763098d8161d14e42b43f2b4f359bcb4f24d4b9665e5cf73", func := "verger/vergerlaw7.LsmPlays", spec := "lsmPlays", inPlace := ["slices.overlaps[verger/block.Block]"], unfollowed := true, recurses := true, apart := false }
def LsmPlaysSaid : Prop := lsmPlaysRow.holds Try.pinned (OpenSpec.ofChange lsmPlaysSpec)

/-- ITS FALSE NEIGHBOUR: 'it returns false'. Refute it at one input. -/
def lsmPlaysWrong : ChangeSpec := { name := "lsmPlays", fn := fun _ => fun
  | [d] => { results := [.lit (.bool false)], args := [d] }
  | _ => none }
def LsmPlaysWrongFalsely : Prop := lsmPlaysRow.holds Try.pinned (OpenSpec.ofChange lsmPlaysWrong)

/- THE SECOND FORM. 'bulk': how many values and letters a reading holds, each counted each time it is reached (what is shared counts as often as it is met; a slice's spare places count too). A statement '..UptoSaid' is the law's where the arguments, and the package variables that the reading takes, are together of bulk at most 1048576: NARROWER than '..Said'. Prove '..Said' where nothing that the law and all that it calls make is longer than what came in: it says more and counts as full. Else prove '..UptoSaid'. A law counts once. -/
mutual
def uptoBulk {H : Type} : DataW H → Nat
  | .lit (.string bytes) => bytes.length + 1
  | .lit _ => 1
  | .nil => 1
  | .ptr d => uptoBulk d + 1
  | .slice elems spare => uptoBulkAll elems + uptoBulkAll spare + 1
  | .agg parts => uptoBulkAll parts + 1
  | .iface _ d => uptoBulk d + 1
  | .map entries => uptoBulkEntries entries + 1
  | .held _ => 1
def uptoBulkAll {H : Type} : List (DataW H) → Nat
  | [] => 0
  | d :: r => uptoBulk d + uptoBulkAll r
def uptoBulkEntries {H : Type} : List (Lit × DataW H) → Nat
  | [] => 0
  | x :: r => uptoBulkEntry x + uptoBulkEntries r
def uptoBulkEntry {H : Type} : Lit × DataW H → Nat
  | (.string bytes, d) => bytes.length + uptoBulk d + 1
  | (_, d) => uptoBulk d + 1
 end
def uptoSmall : (H : Type) → List (DataW H) → Bool := fun _ ds => decide (uptoBulkAll ds ≤ 1048576)
def OpenSpec.upto (s : _root_.Go.ChangeSpec) : _root_.Go.OpenSpec := { _root_.Go.OpenSpec.ofChange s with cond := some uptoSmall }

/-- 'vergerlaw7.LsmCounts', WHERE WHAT IT READS IS OF BULK AT MOST 1048576: true; the input reads as it did. -/
def lsmCountsUptoRow : OpenClaim := { program := "ytoohkcffkhnodaa", sum := "39b732cd2e4e9f65763098d8161d14e42b43f2b4f359bcb4f24d4b9665e5cf73", func := "verger/vergerlaw7.LsmCounts", spec := "lsmCounts", inPlace := ["slices.overlaps[verger/block.Block]"], unfollowed := true, recurses := true, apart := false, narrowed := true }
def LsmCountsUptoSaid : Prop := lsmCountsUptoRow.holds Try.pinned (OpenSpec.upto lsmCountsSpec)

/-- 'vergerlaw7.LsmDrains', WHERE WHAT IT READS IS OF BULK AT MOST 1048576: true; the input reads as it did. -/
def lsmDrainsUptoRow : OpenClaim := { program := "ytoohkcffkhnodaa", sum := "39b732cd2e4e9f65763098d8161d14e42b43f2b4f359bcb4f24d4b9665e5cf73", func := "verger/vergerlaw7.LsmDrains", spec := "lsmDrains", inPlace := ["slices.overlaps[verger/block.Block]"], unfollowed := true, recurses := true, apart := false, narrowed := true }
def LsmDrainsUptoSaid : Prop := lsmDrainsUptoRow.holds Try.pinned (OpenSpec.upto lsmDrainsSpec)

/-- 'vergerlaw7.LsmSorts', WHERE WHAT IT READS IS OF BULK AT MOST 1048576: true; the input reads as it did. -/
def lsmSortsUptoRow : OpenClaim := { program := "ytoohkcffkhnodaa", sum := "39b732cd2e4e9f65763098d8161d14e42b43f2b4f359bcb4f24d4b9665e5cf73", func := "verger/vergerlaw7.LsmSorts", spec := "lsmSorts", inPlace := ["slices.overlaps[verger/block.Block]"], unfollowed := true, recurses := true, apart := false, narrowed := true }
def LsmSortsUptoSaid : Prop := lsmSortsUptoRow.holds Try.pinned (OpenSpec.upto lsmSortsSpec)

/-- 'vergerlaw7.LsmHalves', WHERE WHAT IT READS IS OF BULK AT MOST 1048576: true; the input reads as it did. -/
def lsmHalvesUptoRow : OpenClaim := { program := "ytoohkcffkhnodaa", sum := "39b732cd2e4e9f65763098d8161d14e42b43f2b4f359bcb4f24d4b9665e5cf73", func := "verger/vergerlaw7.LsmHalves", spec := "lsmHalves", inPlace := ["slices.overlaps[verger/block.Block]"], unfollowed := true, recurses := true, apart := false, narrowed := true }
def LsmHalvesUptoSaid : Prop := lsmHalvesUptoRow.holds Try.pinned (OpenSpec.upto lsmHalvesSpec)

/-- 'vergerlaw7.LsmPlays', WHERE WHAT IT READS IS OF BULK AT MOST 1048576: true; the input reads as it did. -/
def lsmPlaysUptoRow : OpenClaim := { program := "ytoohkcffkhnodaa", sum := "39b732cd2e4e9f65763098d8161d14e42b43f2b4f359bcb4f24d4b9665e5cf73", func := "verger/vergerlaw7.LsmPlays", spec := "lsmPlays", inPlace := ["slices.overlaps[verger/block.Block]"], unfollowed := true, recurses := true, apart := false, narrowed := true }
def LsmPlaysUptoSaid : Prop := lsmPlaysUptoRow.holds Try.pinned (OpenSpec.upto lsmPlaysSpec)

end Rows
end Go.Proofs.Ytoohkcffkhnodaa
