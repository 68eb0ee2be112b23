/-
  No cell of these rows narrows 'for every input' (looked for: loops, veiled, ifaces, maps, wideKeys, modest, calm, conditions, laid).
  DERIVED. THE GIVEN ROWS OF THIS SEAT. 3 by the template 'for every input the law returns true; each argument reads behind the call as it read before'; 0 by the template 'total and deterministic' (their statements: YthghkglkifeagaaTotals.lean).
  GIVEN WITH THE SEED: the statements are not yours to turn. If you find one false, say at which input.
  Laid BY PROGRAM, IN A SANDBOX (cutbox-rows.mjs): the forced cells as the released guide's own fill.sh prints them over the translation fe95c049fc32b1ac… (all of the seat's roots in one cut). By AI agents, Wed Nov 11 2026. No macro, syntax, notation, axiom, sorry.
-/
import Derived.Test.YthghkglkifeagaaChecked
import GoSem.Claim
import GoSem.ClaimJoined
import GoSem.ClaimMapViews
import Derived.JoinedTies
import Derived.KernelRfl
namespace Go.Proofs.Ythghkglkifeagaa
/- THE CELL 'sum', in the pinned program and in every row, IS THE sha256 OF THE DUMP (.gsa) THAT YthghkglkifeagaaProg.lean LOADS. Nothing in Lean hashes anything: it is a label: what it is worth is what the hold of that sum in a sandbox is worth. -/
noncomputable def Try.pinned : Pinned := { name := "ythghkglkifeagaa", sum := "fe95c049fc32b1ac91cb4e9e3d5a035db1cac0f9eae43bc238c1386b3bfe369c", checked := Try.checked }
namespace Rows
def none {H : Type} : Left H := { results := [], args := [] }

/-- 'vergerlaw10.QueueSpills': WHATEVER THE INPUT: true; the input reads as it did. -/
def queueSpillsSpec : ChangeSpec := { name := "queueSpills", fn := fun _ => fun
  | [d1, d2, d3] => { results := [.lit (.bool true)], args := [d1, d2, d3] }
  | _ => none }
def queueSpillsRow : OpenClaim := { program := "ythghkglkifeagaa", sum := "fe95c049fc32b1ac91cb4e9e3d5a035db1cac0f9eae43bc238c1386b3bfe369c", func := "verger/vergerlaw10.QueueSpills", spec := "queueSpills", inPlace := ["slices.overlaps[verger/block.Block]"], unfollowed := true, recurses := true, apart := false }
def QueueSpillsSaid : Prop := queueSpillsRow.holds Try.pinned (OpenSpec.ofChange queueSpillsSpec)

/-- ITS FALSE NEIGHBOUR: 'it returns false'. Refute it at one input. -/
def queueSpillsWrong : ChangeSpec := { name := "queueSpills", fn := fun _ => fun
  | [d1, d2, d3] => { results := [.lit (.bool false)], args := [d1, d2, d3] }
  | _ => none }
def QueueSpillsWrongFalsely : Prop := queueSpillsRow.holds Try.pinned (OpenSpec.ofChange queueSpillsWrong)

/-- 'vergerlaw10.QueueHelps': WHATEVER THE INPUT: true; the input reads as it did. -/
def queueHelpsSpec : ChangeSpec := { name := "queueHelps", fn := fun _ => fun
  | [d1, d2, d3] => { results := [.lit (.bool true)], args := [d1, d2, d3] }
  | _ => none }
def queueHelpsRow : OpenClaim := { program := "ythghkglkifeagaa", sum := "fe95c049fc32b1ac91cb4e9e3d5a035db1cac0f9eae43bc238c1386b3bfe369c", func := "verger/vergerlaw10.QueueHelps", spec := "queueHelps", inPlace := ["slices.overlaps[verger/block.Block]"], unfollowed := true, recurses := true, apart := false }
def QueueHelpsSaid : Prop := queueHelpsRow.holds Try.pinned (OpenSpec.ofChange queueHelpsSpec)

/-- ITS FALSE NEIGHBOUR: 'it returns false'. Refute it at one input. -/
def queueHelpsWrong : ChangeSpec := { name := "queueHelps", fn := fun _ => fun
  | [d1, d2, d3] => { results := [.lit (.bool false)], args := [d1, d2, d3] }
  | _ => none }
def QueueHelpsWrongFalsely : Prop := queueHelpsRow.holds Try.pinned (OpenSpec.ofChange queueHelpsWrong)

/-- 'vergerlaw10.QueueDraws': WHATEVER THE INPUT: true; the input reads as it did. -/
def queueDrawsSpec : ChangeSpec := { name := "queueDraws", fn := fun _ => fun
  | [d1, d2] => { results := [.lit (.bool true)], args := [d1, d2] }
  | _ => none }
def queueDrawsRow : OpenClaim := { program := "ythghkglkifeagaa", sum := "fe95c049fc32b1ac91cb4e9e3d5a035db1cac0f9eae43bc238c1386b3bfe369c", func := "verger/vergerlaw10.QueueDraws", spec := "queueDraws", inPlace := ["slices.overlaps[verger/block.Block]"], unfollowed := true, recurses := true, apart := false }
def QueueDrawsSaid : Prop := queueDrawsRow.holds Try.pinned (OpenSpec.ofChange queueDrawsSpec)

/-- ITS FALSE NEIGHBOUR: 'it returns false'. Refute it at one input. -/
def queueDrawsWrong : ChangeSpec := { name := "queueDraws", fn := fun _ => fun
  | [d1, d2] => { results := [.lit (.bool false)], args := [d1, d2] }
  | _ => none }
def QueueDrawsWrongFalsely : Prop := queueDrawsRow.holds Try.pinned (OpenSpec.ofChange queueDrawsWrong)

/- THE SECOND FORM. 'bulk': how many values and letters a reading holds, each counted each time it is reached (what is shared counts as often as it is met; a slice's spare places count too). A statement '..UptoSaid' is the law's where the arguments, and the package variables that the reading takes, are together of bulk at most 1048576: NARROWER than '..Said'. Prove '..Said' where nothing that the law and all that it calls make is longer than what came in: it says more and counts as full. Else prove '..UptoSaid'. A law counts once. -/
mutual
def uptoBulk {H : Type} : DataW H → Nat
  | .lit (.string bytes) => bytes.length + 1
  | .lit _ => 1
  | .nil => 1
  | .ptr d => uptoBulk d + 1
  | .slice elems spare => uptoBulkAll elems + uptoBulkAll spare + 1
  | .agg parts => uptoBulkAll parts + 1
  | .iface _ d => uptoBulk d + 1
  | .map entries => uptoBulkEntries entries + 1
  | .held _ => 1
def uptoBulkAll {H : Type} : List (DataW H) → Nat
  | [] => 0
  | d :: r => uptoBulk d + uptoBulkAll r
def uptoBulkEntries {H : Type} : List (Lit × DataW H) → Nat
  | [] => 0
  | x :: r => uptoBulkEntry x + uptoBulkEntries r
def uptoBulkEntry {H : Type} : Lit × DataW H → Nat
  | (.string bytes, d) => bytes.length + uptoBulk d + 1
  | (_, d) => uptoBulk d + 1
 end
def uptoSmall : (H : Type) → List (DataW H) → Bool := fun _ ds => decide (uptoBulkAll ds ≤ 1048576)
def OpenSpec.upto (s : _root_.Go.ChangeSpec) : _root_.Go.OpenSpec := { _root_.Go.OpenSpec.ofChange s with cond := some uptoSmall }

/-- 'vergerlaw10.QueueSpills', WHERE WHAT IT READS IS OF BULK AT MOST 1048576: true; the input reads as it did. -/
def queueSpillsUptoRow : OpenClaim := { program := "ythghkglkifeagaa", sum := "fe95c049fc32b1ac91cb4e9e3d5a035db1cac0f9eae43bc238c1386b3bfe369c", func := "verger/vergerlaw10.QueueSpills", spec := "queueSpills", inPlace := ["slices.overlaps[verger/block.Block]"], unfollowed := true, recurses := true, apart := false, narrowed := true }
def QueueSpillsUptoSaid : Prop := queueSpillsUptoRow.holds Try.pinned (OpenSpec.upto queueSpillsSpec)

/-- 'vergerlaw10.QueueHelps', WHERE WHAT IT READS IS OF BULK AT MOST 1048576: true; the input reads as it did. -/
def queueHelpsUptoRow : OpenClaim := { program := "ythghkglkifeagaa", sum := "fe95c049fc32b1ac91cb4e9e3d5a035db1cac0f9eae43bc238c1386b3bfe369c", func := "verger/vergerlaw10.QueueHelps", spec := "queueHelps", inPlace := ["slices.overlaps[verger/block.Block]"], unfollowed := true, recurses := true, apart := false, narrowed := true }
def QueueHelpsUptoSaid : Prop := queueHelpsUptoRow.holds Try.pinned (OpenSpec.upto queueHelpsSpec)

/-- 'vergerlaw10.QueueDraws', WHERE WHAT IT READS IS OF BULK AT MOST 1048576: true; the input reads as it did. -/
def queueDrawsUptoRow : OpenClaim := { program := "ythghkglkifeagaa", sum := "fe95c049fc32b1ac91cb4e9e3d5a035db1cac0f9eae43bc238c1386b3bfe369c", func := "verger/vergerlaw10.QueueDraws", spec := "queueDraws", inPlace := ["slices.overlaps[verger/block.Block]"], unfollowed := true, recurses := true, apart := false, narrowed := true }
def QueueDrawsUptoSaid : Prop := queueDrawsUptoRow.holds Try.pinned (OpenSpec.upto queueDrawsSpec)

end Rows
end Go.Proofs.Ythghkglkifeagaa
