/-
  No cell of these rows narrows 'for every input' (looked for: loops, veiled, ifaces, maps, wideKeys, modest, calm, conditions, laid).
  DERIVED. THE GIVEN ROWS OF THIS SEAT. 4 by the template 'for every input the law returns true; each argument reads behind the call as it read before'; 0 by the template 'total and deterministic' (their statements: YthghkglkifeagaaGreatTotals.lean).
  GIVEN WITH THE SEED: the statements are not yours to turn. If you find one false, say at which input.
  Laid BY PROGRAM, IN A SANDBOX (cutbox-rows.mjs): the forced cells as the released guide's own fill.sh prints them over the translation d0d84d2bd66a8879… (all of the seat's roots in one cut). By AI agents, Wed Nov 11 2026. No macro, syntax, notation, axiom, sorry.
-/
import Derived.Test.YthghkglkifeagaaGreatChecked
import GoSem.Claim
import GoSem.ClaimJoined
import GoSem.ClaimMapViews
import Derived.JoinedTies
import Derived.KernelRfl
namespace Go.Proofs.YthghkglkifeagaaGreat
/- THE CELL 'sum', in the pinned program and in every row, IS THE sha256 OF THE DUMP (.gsa) THAT YthghkglkifeagaaGreatProg.lean LOADS. Nothing in Lean hashes anything: it is a label: what it is worth is what the hold of that sum in a sandbox is worth. -/
noncomputable def Tryz.pinned : Pinned := { name := "ythghkglkifeagaagreat", sum := "d0d84d2bd66a8879748b483ec6941c1d24c5ae5e7638023e8c9852cda5728641", checked := Tryz.checked }
namespace Rows
def none {H : Type} : Left H := { results := [], args := [] }

/-- 'vergerlaw10.QueueKeeps': WHATEVER THE INPUT: true; the input reads as it did. -/
def queueKeepsSpec : ChangeSpec := { name := "queueKeeps", fn := fun _ => fun
  | [d1, d2, d3] => { results := [.lit (.bool true)], args := [d1, d2, d3] }
  | _ => none }
def queueKeepsRow : OpenClaim := { program := "ythghkglkifeagaagreat", sum := "d0d84d2bd66a8879748b483ec6941c1d24c5ae5e7638023e8c9852cda5728641", func := "verger/vergerlaw10.QueueKeeps", spec := "queueKeeps", inPlace := ["slices.overlaps[verger/block.Block]"], unfollowed := true, recurses := true, plainKeys := false, apart := false }
def QueueKeepsSaid : Prop := queueKeepsRow.holds Tryz.pinned (OpenSpec.ofChange queueKeepsSpec)

/-- ITS FALSE NEIGHBOUR: 'it returns false'. Refute it at one input. -/
def queueKeepsWrong : ChangeSpec := { name := "queueKeeps", fn := fun _ => fun
  | [d1, d2, d3] => { results := [.lit (.bool false)], args := [d1, d2, d3] }
  | _ => none }
def QueueKeepsWrongFalsely : Prop := queueKeepsRow.holds Tryz.pinned (OpenSpec.ofChange queueKeepsWrong)

/-- 'vergerlaw10.QueueStrict': WHATEVER THE INPUT: true; the input reads as it did. -/
def queueStrictSpec : ChangeSpec := { name := "queueStrict", fn := fun _ => fun
  | [d1, d2] => { results := [.lit (.bool true)], args := [d1, d2] }
  | _ => none }
def queueStrictRow : OpenClaim := { program := "ythghkglkifeagaagreat", sum := "d0d84d2bd66a8879748b483ec6941c1d24c5ae5e7638023e8c9852cda5728641", func := "verger/vergerlaw10.QueueStrict", spec := "queueStrict", inPlace := ["slices.overlaps[verger/block.Block]"], unfollowed := true, recurses := true, plainKeys := false, apart := false }
def QueueStrictSaid : Prop := queueStrictRow.holds Tryz.pinned (OpenSpec.ofChange queueStrictSpec)

/-- ITS FALSE NEIGHBOUR: 'it returns false'. Refute it at one input. -/
def queueStrictWrong : ChangeSpec := { name := "queueStrict", fn := fun _ => fun
  | [d1, d2] => { results := [.lit (.bool false)], args := [d1, d2] }
  | _ => none }
def QueueStrictWrongFalsely : Prop := queueStrictRow.holds Tryz.pinned (OpenSpec.ofChange queueStrictWrong)

/-- 'vergerlaw10.QueuePlays': WHATEVER THE INPUT: true; the input reads as it did. -/
def queuePlaysSpec : ChangeSpec := { name := "queuePlays", fn := fun _ => fun
  | [d1, d2, d3] => { results := [.lit (.bool true)], args := [d1, d2, d3] }
  | _ => none }
def queuePlaysRow : OpenClaim := { program := "ythghkglkifeagaagreat", sum := "d0d84d2bd66a8879748b483ec6941c1d24c5ae5e7638023e8c9852cda5728641", func := "verger/vergerlaw10.QueuePlays", spec := "queuePlays", inPlace := ["slices.overlaps[verger/block.Block]"], unfollowed := true, recurses := true, plainKeys := false, apart := false }
def QueuePlaysSaid : Prop := queuePlaysRow.holds Tryz.pinned (OpenSpec.ofChange queuePlaysSpec)

/-- ITS FALSE NEIGHBOUR: 'it returns false'. Refute it at one input. -/
def queuePlaysWrong : ChangeSpec := { name := "queuePlays", fn := fun _ => fun
  | [d1, d2, d3] => { results := [.lit (.bool false)], args := [d1, d2, d3] }
  | _ => none }
def QueuePlaysWrongFalsely : Prop := queuePlaysRow.holds Tryz.pinned (OpenSpec.ofChange queuePlaysWrong)

/-- 'vergerlaw10.QueueNear': WHATEVER THE INPUT: true; the input reads as it did. -/
def queueNearSpec : ChangeSpec := { name := "queueNear", fn := fun _ => fun
  | [d1, d2, d3, d4] => { results := [.lit (.bool true)], args := [d1, d2, d3, d4] }
  | _ => none }
def queueNearRow : OpenClaim := { program := "ythghkglkifeagaagreat", sum := "d0d84d2bd66a8879748b483ec6941c1d24c5ae5e7638023e8c9852cda5728641", func := "verger/vergerlaw10.QueueNear", spec := "queueNear", inPlace := ["slices.overlaps[verger/block.Block]"], unfollowed := true, recurses := true, plainKeys := false, apart := false }
def QueueNearSaid : Prop := queueNearRow.holds Tryz.pinned (OpenSpec.ofChange queueNearSpec)

/-- ITS FALSE NEIGHBOUR: 'it returns false'. Refute it at one input. -/
def queueNearWrong : ChangeSpec := { name := "queueNear", fn := fun _ => fun
  | [d1, d2, d3, d4] => { results := [.lit (.bool false)], args := [d1, d2, d3, d4] }
  | _ => none }
def QueueNearWrongFalsely : Prop := queueNearRow.holds Tryz.pinned (OpenSpec.ofChange queueNearWrong)

/- THE SECOND FORM. 'bulk': how many values and letters a reading holds, each counted each time it is reached (what is shared counts as often as it is met; a slice's spare places count too). A statement '..UptoSaid' is the law's where the arguments, and the package variables that the reading takes, are together of bulk at most 1048576: NARROWER than '..Said'. Prove '..Said' where nothing that the law and all that it calls make is longer than what came in: it says more and counts as full. Else prove '..UptoSaid'. A law counts once. -/
mutual
def uptoBulk {H : Type} : DataW H → Nat
  | .lit (.string bytes) => bytes.length + 1
  | .lit _ => 1
  | .nil => 1
  | .ptr d => uptoBulk d + 1
  | .slice elems spare => uptoBulkAll elems + uptoBulkAll spare + 1
  | .agg parts => uptoBulkAll parts + 1
  | .iface _ d => uptoBulk d + 1
  | .map entries => uptoBulkEntries entries + 1
  | .held _ => 1
def uptoBulkAll {H : Type} : List (DataW H) → Nat
  | [] => 0
  | d :: r => uptoBulk d + uptoBulkAll r
def uptoBulkEntries {H : Type} : List (Lit × DataW H) → Nat
  | [] => 0
  | x :: r => uptoBulkEntry x + uptoBulkEntries r
def uptoBulkEntry {H : Type} : Lit × DataW H → Nat
  | (.string bytes, d) => bytes.length + uptoBulk d + 1
  | (_, d) => uptoBulk d + 1
 end
def uptoSmall : (H : Type) → List (DataW H) → Bool := fun _ ds => decide (uptoBulkAll ds ≤ 1048576)
def OpenSpec.upto (s : _root_.Go.ChangeSpec) : _root_.Go.OpenSpec := { _root_.Go.OpenSpec.ofChange s with cond := some uptoSmall }

/-- 'vergerlaw10.QueueKeeps', WHERE WHAT IT READS IS OF BULK AT MOST 1048576: true; the input reads as it did. -/
def queueKeepsUptoRow : OpenClaim := { program := "ythghkglkifeagaagreat", sum := "d0d84d2bd66a8879748b483ec6941c1d24c5ae5e7638023e8c9852cda5728641", func := "verger/vergerlaw10.QueueKeeps", spec := "queueKeeps", inPlace := ["slices.overlaps[verger/block.Block]"], unfollowed := true, recurses := true, plainKeys := false, apart := false, narrowed := true }
def QueueKeepsUptoSaid : Prop := queueKeepsUptoRow.holds Tryz.pinned (OpenSpec.upto queueKeepsSpec)

/-- 'vergerlaw10.QueueStrict', WHERE WHAT IT READS IS OF BULK AT MOST 1048576: true; the input reads as it did. -/
def queueStrictUptoRow : OpenClaim := { program := "ythghkglkifeagaagreat", sum := "d0d84d2bd66a8879748b483ec6941c1d24c5ae5e7638023e8c9852cda5728641", func := "verger/vergerlaw10.QueueStrict", spec := "queueStrict", inPlace := ["slices.overlaps[verger/block.Block]"], unfollowed := true, recurses := true, plainKeys := false, apart := false, narrowed := true }
def QueueStrictUptoSaid : Prop := queueStrictUptoRow.holds Tryz.pinned (OpenSpec.upto queueStrictSpec)

/-- 'vergerlaw10.QueuePlays', WHERE WHAT IT READS IS OF BULK AT MOST 1048576: true; the input reads as it did. -/
def queuePlaysUptoRow : OpenClaim := { program := "ythghkglkifeagaagreat", sum := "d0d84d2bd66a8879748b483ec6941c1d24c5ae5e7638023e8c9852cda5728641", func := "verger/vergerlaw10.QueuePlays", spec := "queuePlays", inPlace := ["slices.overlaps[verger/block.Block]"], unfollowed := true, recurses := true, plainKeys := false, apart := false, narrowed := true }
def QueuePlaysUptoSaid : Prop := queuePlaysUptoRow.holds Tryz.pinned (OpenSpec.upto queuePlaysSpec)

/-- 'vergerlaw10.QueueNear', WHERE WHAT IT READS IS OF BULK AT MOST 1048576: true; the input reads as it did. -/
def queueNearUptoRow : OpenClaim := { program := "ythghkglkifeagaagreat", sum := "d0d84d2bd66a8879748b483ec6941c1d24c5ae5e7638023e8c9852cda5728641", func := "verger/vergerlaw10.QueueNear", spec := "queueNear", inPlace := ["slices.overlaps[verger/block.Block]"], unfollowed := true, recurses := true, plainKeys := false, apart := false, narrowed := true }
def QueueNearUptoSaid : Prop := queueNearUptoRow.holds Tryz.pinned (OpenSpec.upto queueNearSpec)

end Rows
end Go.Proofs.YthghkglkifeagaaGreat
