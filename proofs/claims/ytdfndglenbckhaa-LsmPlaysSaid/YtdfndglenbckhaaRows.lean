/-
  No cell of these rows narrows 'for every input' (looked for: loops, veiled, ifaces, maps, wideKeys, modest, calm, conditions, laid).
  DERIVED. THE GIVEN ROWS OF THIS SEAT. 5 by the template 'for every input the law returns true; each argument reads behind the call as it read before'; 0 by the template 'total and deterministic' (their statements: YtdfndglenbckhaaTotals.lean).
  GIVEN WITH THE SEED: the statements are not yours to turn. If you find one false, say at which input.
  Laid BY PROGRAM, IN A SANDBOX (cutbox-rows.mjs): the forced cells as the released guide's own fill.sh prints them over the translation ef48506e91680bfa… (all of the seat's roots in one cut). By AI agents, Wed Nov 11 2026. No macro, syntax, notation, axiom, sorry.
-/
import Derived.Test.YtdfndglenbckhaaChecked
import GoSem.Claim
import GoSem.ClaimJoined
import GoSem.ClaimMapViews
import Derived.JoinedTies
import Derived.KernelRfl
namespace Go.Proofs.Ytdfndglenbckhaa
/- THE CELL 'sum', in the pinned program and in every row, IS THE sha256 OF THE DUMP (.gsa) THAT YtdfndglenbckhaaProg.lean LOADS. Nothing in Lean hashes anything: it is a label: what it is worth is what the hold of that sum in a sandbox is worth. -/
noncomputable def Try.pinned : Pinned := { name := "ytdfndglenbckhaa", sum := "ef48506e91680bfaf13ebef71446d62cc15814c15dcff9bb90815357f05e3172", checked := Try.checked }
namespace Rows
def none {H : Type} : Left H := { results := [], args := [] }

/-- 'vergerlaw8.SharedPlays': WHATEVER THE INPUT: true; the input reads as it did. -/
def sharedPlaysSpec : ChangeSpec := { name := "sharedPlays", fn := fun _ => fun
  | [d1, d2, d3] => { results := [.lit (.bool true)], args := [d1, d2, d3] }
  | _ => none }
def sharedPlaysRow : OpenClaim := { program := "ytdfndglenbckhaa", sum := "ef48506e91680bfaf13ebef71446d62cc15814c15dcff9bb90815357f05e3172", func := "verger/vergerlaw8.SharedPlays", spec := "sharedPlays", inPlace := ["slices.overlaps[verger/block.Block]"], unfollowed := true, recurses := true, apart := false }
def SharedPlaysSaid : Prop := sharedPlaysRow.holds Try.pinned (OpenSpec.ofChange sharedPlaysSpec)

/-- ITS FALSE NEIGHBOUR: 'it returns false'. Refute it at one input. -/
def sharedPlaysWrong : ChangeSpec := { name := "sharedPlays", fn := fun _ => fun
  | [d1, d2, d3] => { results := [.lit (.bool false)], args := [d1, d2, d3] }
  | _ => none }
def SharedPlaysWrongFalsely : Prop := sharedPlaysRow.holds Try.pinned (OpenSpec.ofChange sharedPlaysWrong)

/-- 'vergerlaw7.LsmPlays': WHATEVER THE INPUT: true; the input reads as it did. -/
def lsmPlaysSpec : ChangeSpec := { name := "lsmPlays", fn := fun _ => fun
  | [d] => { results := [.lit (.bool true)], args := [d] }
  | _ => none }
def lsmPlaysRow : OpenClaim := { program := "ytdfndglenbckhaa", sum := "ef48506e91680bfaf13ebef71446d62cc15814c15dcff9bb90815357f05e3172", func := "verger/vergerlaw7.LsmPlays", spec := "lsmPlays", inPlace := ["slices.overlaps[verger/block.Block]"], unfollowed := true, recurses := true, apart := false }
def LsmPlaysSaid : Prop := lsmPlaysRow.holds Try.pinned (OpenSpec.ofChange lsmPlaysSpec)

/-- ITS FALSE NEIGHBOUR: 'it returns false'. Refute it at one input. -/
def lsmPlaysWrong : ChangeSpec := { name := "lsmPlays", fn := fun _ => fun
  | [d] => { results := [.lit (.bool false)], args := [d] }
  | _ => none }
def LsmPlaysWrongFalsely : Prop := lsmPlaysRow.holds Try.pinned (OpenSpec.ofChange lsmPlaysWrong)

/-- 'vergerlaw10.QueueSpills': WHATEVER THE INPUT: true; the input reads as it did. -/
def queueSpillsSpec : ChangeSpec := { name := "queueSpills", fn := fun _ => fun
  | [d1, d2, d3] => { results := [.lit (.bool true)], args := [d1, d2, d3] }
  | _ => none }
def queueSpillsRow : OpenClaim := { program := "ytdfndglenbckhaa", sum := "ef48506e91680bfaf13ebef71446d62cc15814c15dcff9bb90815357f05e3172", func := "verger/vergerlaw10.QueueSpills", spec := "queueSpills", inPlace := ["slices.overlaps[verger/block.Block]"], unfollowed := true, recurses := true, apart := false }
def QueueSpillsSaid : Prop := queueSpillsRow.holds Try.pinned (OpenSpec.ofChange queueSpillsSpec)

/-- ITS FALSE NEIGHBOUR: 'it returns false'. Refute it at one input. -/
def queueSpillsWrong : ChangeSpec := { name := "queueSpills", fn := fun _ => fun
  | [d1, d2, d3] => { results := [.lit (.bool false)], args := [d1, d2, d3] }
  | _ => none }
def QueueSpillsWrongFalsely : Prop := queueSpillsRow.holds Try.pinned (OpenSpec.ofChange queueSpillsWrong)

/-- 'vergerlaw10.QueueHelps': WHATEVER THE INPUT: true; the input reads as it did. -/
def queueHelpsSpec : ChangeSpec := { name := "queueHelps", fn := fun _ => fun
  | [d1, d2, d3] => { results := [.lit (.bool true)], args := [d1, d2, d3] }
  | _ => none }
def queueHelpsRow : OpenClaim := { program := "ytdfndglenbckhaa", sum := "ef48506e91680bfaf13ebef71446d62cc15814c15dcff9bb90815357f05e3172", func := "verger/vergerlaw10.QueueHelps", spec := "queueHelps", inPlace := ["slices.overlaps[verger/block.Block]"], unfollowed := true, recurses := true, apart := false }
def QueueHelpsSaid : Prop := queueHelpsRow.holds Try.pinned (OpenSpec.ofChange queueHelpsSpec)

/-- ITS FALSE NEIGHBOUR: 'it returns false'. Refute it at one input. -/
def queueHelpsWrong : ChangeSpec := { name := "queueHelps", fn := fun _ => fun
  | [d1, d2, d3] => { results := [.lit (.bool false)], args := [d1, d2, d3] }
  | _ => none }
def QueueHelpsWrongFalsely : Prop := queueHelpsRow.holds Try.pinned (OpenSpec.ofChange queueHelpsWrong)

/-- 'vergerlaw10.QueueDraws': WHATEVER THE INPUT: true; the input reads as it did. -/
def queueDrawsSpec : ChangeSpec := { name := "queueDraws", fn := fun _ => fun
  | [d1, d2] => { results := [.lit (.bool true)], args := [d1, d2] }
  | _ => none }
def queueDrawsRow : OpenClaim := { program := "ytdfndglenbckhaa", sum := "ef48506e91680bfaf13ebef71446d62cc15814c15dcff9bb90815357f05e3172", func := "verger/vergerlaw10.QueueDraws", spec := "queueDraws", inPlace := ["slices.overlaps[verger/block.Block]"], unfollowed := true, recurses := true, apart := false }
def QueueDrawsSaid : Prop := queueDrawsRow.holds Try.pinned (OpenSpec.ofChange queueDrawsSpec)

/-- ITS FALSE NEIGHBOUR: 'it returns false'. Refute it at one input. -/
def queueDrawsWrong : ChangeSpec := { name := "queueDraws", fn := fun _ => fun
  | [d1, d2] => { results := [.lit (.bool false)], args := [d1, d2] }
  | _ => none }
def QueueDrawsWrongFalsely : Prop := queueDrawsRow.holds Try.pinned (OpenSpec.ofChange queueDrawsWrong)

/- THE SECOND FORM. 'bulk': how many values and letters a reading holds, each counted each time it is reached (what is shared counts as often as it is met; a slice's spare places count too). A statement '..UptoSaid' is the law's where the arguments, and the package variables that the reading takes, are together of bulk at most 1048576: NARROWER than '..Said'. Prove '..Said' where nothing that the law and all that it calls make is longer than what came in: it says more and counts as full. Else prove '..UptoSaid'. A law counts once. -/
mutual
def uptoBulk {H : Type} : DataW H → Nat
  | .lit (.string bytes) => bytes.length + 1
  | .lit _ => 1
  | .nil => 1
  | .ptr d => uptoBulk d + 1
  | .slice elems spare => uptoBulkAll elems + uptoBulkAll spare + 1
  | .agg parts => uptoBulkAll parts + 1
  | .iface _ d => uptoBulk d + 1
  | .map entries => uptoBulkEntries entries + 1
  | .held _ => 1
def uptoBulkAll {H : Type} : List (DataW H) → Nat
  | [] => 0
  | d :: r => uptoBulk d + uptoBulkAll r
def uptoBulkEntries {H : Type} : List (Lit × DataW H) → Nat
  | [] => 0
  | x :: r => uptoBulkEntry x + uptoBulkEntries r
def uptoBulkEntry {H : Type} : Lit × DataW H → Nat
  | (.string bytes, d) => bytes.length + uptoBulk d + 1
  | (_, d) => uptoBulk d + 1
 end
def uptoSmall : (H : Type) → List (DataW H) → Bool := fun _ ds => decide (uptoBulkAll ds ≤ 1048576)
def OpenSpec.upto (s : _root_.Go.ChangeSpec) : _root_.Go.OpenSpec := { _root_.Go.OpenSpec.ofChange s with cond := some uptoSmall }

/-- 'vergerlaw8.SharedPlays', WHERE WHAT IT READS IS OF BULK AT MOST 1048576: true; the input reads as it did. -/
def sharedPlaysUptoRow : OpenClaim := { program := "ytdfndglenbckhaa", sum := "ef48506e91680bfaf13ebef71446d62cc15814c15dcff9bb90815357f05e3172", func := "verger/vergerlaw8.SharedPlays", spec := "sharedPlays", inPlace := ["slices.overlaps[verger/block.Block]"], unfollowed := true, recurses := true, apart := false, narrowed := true }
def SharedPlaysUptoSaid : Prop := sharedPlaysUptoRow.holds Try.pinned (OpenSpec.upto sharedPlaysSpec)

/-- 'vergerlaw7.LsmPlays', WHERE WHAT IT READS IS OF BULK AT MOST 1048576: true; the input reads as it did. -/
def lsmPlaysUptoRow : OpenClaim := { program := "ytdfndglenbckhaa", sum := "ef48506e91680bfaf13ebef71446d62cc15814c15dcff9bb90815357f05e3172", func := "verger/vergerlaw7.LsmPlays", spec := "lsmPlays", inPlace := ["slices.overlaps[verger/block.Block]"], unfollowed := true, recurses := true, apart := false, narrowed := true }
def LsmPlaysUptoSaid : Prop := lsmPlaysUptoRow.holds Try.pinned (OpenSpec.upto lsmPlaysSpec)

/-- 'vergerlaw10.QueueSpills', WHERE WHAT IT READS IS OF BULK AT MOST 1048576: true; the input reads as it did. -/
def queueSpillsUptoRow : OpenClaim := { program := "ytdfndglenbckhaa", sum := "ef48506e91680bfaf13ebef71446d62cc15814c15dcff9bb90815357f05e3172", func := "verger/vergerlaw10.QueueSpills", spec := "queueSpills", inPlace := ["slices.overlaps[verger/block.Block]"], unfollowed := true, recurses := true, apart := false, narrowed := true }
def QueueSpillsUptoSaid : Prop := queueSpillsUptoRow.holds Try.pinned (OpenSpec.upto queueSpillsSpec)

/-- 'vergerlaw10.QueueHelps', WHERE WHAT IT READS IS OF BULK AT MOST 1048576: true; the input reads as it did. -/
def queueHelpsUptoRow : OpenClaim := { program := "ytdfndglenbckhaa", sum := "ef48506e91680bfaf13ebef71446d62cc15814c15dcff9bb90815357f05e3172", func := "verger/vergerlaw10.QueueHelps", spec := "queueHelps", inPlace := ["slices.overlaps[verger/block.Block]"], unfollowed := true, recurses := true, apart := false, narrowed := true }
def QueueHelpsUptoSaid : Prop := queueHelpsUptoRow.holds Try.pinned (OpenSpec.upto queueHelpsSpec)

/-- 'vergerlaw10.QueueDraws', WHERE WHAT IT READS IS OF BULK AT MOST 1048576: true; the input reads as it did. -/
def queueDrawsUptoRow : OpenClaim := { program := "ytdfndglenbckhaa", sum := "ef48506e91680bfaf13ebef71446d62cc15814c15dcff9bb90815357f05e3172", func := "verger/vergerlaw10.QueueDraws", spec := "queueDraws", inPlace := ["slices.overlaps[verger/block.Block]"], unfollowed := true, recurses := true, apart := false, narrowed := true }
def QueueDrawsUptoSaid : Prop := queueDrawsUptoRow.holds Try.pinned (OpenSpec.upto queueDrawsSpec)

end Rows
end Go.Proofs.Ytdfndglenbckhaa
