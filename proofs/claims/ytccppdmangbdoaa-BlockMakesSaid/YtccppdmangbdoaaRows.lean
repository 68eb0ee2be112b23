/-
  No cell of these rows narrows 'for every input' (looked for: loops, veiled, ifaces, maps, wideKeys, modest, calm, conditions, laid).
  DERIVED. THE GIVEN ROWS OF THIS SEAT. 7 by the template 'for every input the law returns true; each argument reads behind the call as it read before'; 0 by the template 'total and deterministic' (their statements: YtccppdmangbdoaaTotals.lean).
  GIVEN WITH THE SEED: the statements are not yours to turn. If you find one false, say at which input.
  Laid BY PROGRAM, IN A SANDBOX (cutbox-rows.mjs): the forced cells as the released guide's own fill.sh prints them over the translation 8de9fb7a49d6eb6a… (all of the seat's roots in one cut). By AI agents, Wed Nov 11 2026. No macro, syntax, notation, axiom, sorry.
-/
import Derived.Test.YtccppdmangbdoaaChecked
import GoSem.Claim
import GoSem.ClaimJoined
import GoSem.ClaimMapViews
import Derived.JoinedTies
import Derived.KernelRfl
namespace Go.Proofs.Ytccppdmangbdoaa
/- THE CELL 'sum', in the pinned program and in every row, IS THE sha256 OF THE DUMP (.gsa) THAT YtccppdmangbdoaaProg.lean LOADS. Nothing in Lean hashes anything: it is a label: what it is worth is what the hold of that sum in a sandbox is worth. -/
noncomputable def Try.pinned : Pinned := { name := "ytccppdmangbdoaa", sum := "8de9fb7a49d6eb6a8406bce5273a5499bc7c89b7f4271af6fb101584af820cbc", checked := Try.checked }
namespace Rows
def none {H : Type} : Left H := { results := [], args := [] }

/-- 'vergerlaw6.BlockMakes': WHATEVER THE INPUT: true; the input reads as it did. -/
def blockMakesSpec : ChangeSpec := { name := "blockMakes", fn := fun _ => fun
  | [d1, d2, d3, d4] => { results := [.lit (.bool true)], args := [d1, d2, d3, d4] }
  | _ => none }
def blockMakesRow : OpenClaim := { program := "ytccppdmangbdoaa", sum := "8de9fb7a49d6eb6a8406bce5273a5499bc7c89b7f4271af6fb101584af820cbc", func := "verger/vergerlaw6.BlockMakes", spec := "blockMakes", unfollowed := true, recurses := true, apart := false }
def BlockMakesSaid : Prop := blockMakesRow.holds Try.pinned (OpenSpec.ofChange blockMakesSpec)

/-- ITS FALSE NEIGHBOUR: 'it returns false'. Refute it at one input. -/
def blockMakesWrong : ChangeSpec := { name := "blockMakes", fn := fun _ => fun
  | [d1, d2, d3, d4] => { results := [.lit (.bool false)], args := [d1, d2, d3, d4] }
  | _ => none }
def BlockMakesWrongFalsely : Prop := blockMakesRow.holds Try.pinned (OpenSpec.ofChange blockMakesWrong)

/-- 'vergerlaw6.BlockPivots': WHATEVER THE INPUT: true; the input reads as it did. -/
def blockPivotsSpec : ChangeSpec := { name := "blockPivots", fn := fun _ => fun
  | [d1, d2] => { results := [.lit (.bool true)], args := [d1, d2] }
  | _ => none }
def blockPivotsRow : OpenClaim := { program := "ytccppdmangbdoaa", sum := "8de9fb7a49d6eb6a8406bce5273a5499bc7c89b7f4271af6fb101584af820cbc", func := "verger/vergerlaw6.BlockPivots", spec := "blockPivots", unfollowed := true, recurses := true, apart := false }
def BlockPivotsSaid : Prop := blockPivotsRow.holds Try.pinned (OpenSpec.ofChange blockPivotsSpec)

/-- ITS FALSE NEIGHBOUR: 'it returns false'. Refute it at one input. -/
def blockPivotsWrong : ChangeSpec := { name := "blockPivots", fn := fun _ => fun
  | [d1, d2] => { results := [.lit (.bool false)], args := [d1, d2] }
  | _ => none }
def BlockPivotsWrongFalsely : Prop := blockPivotsRow.holds Try.pinned (OpenSpec.ofChange blockPivotsWrong)

/-- 'vergerlaw6.BlockShrinks': WHATEVER THE INPUT: true; the input reads as it did. -/
def blockShrinksSpec : ChangeSpec := { name := "blockShrinks", fn := fun _ => fun
  | [d1, d2, d3] => { results := [.lit (.bool true)], args := [d1, d2, d3] }
  | _ => none }
def blockShrinksRow : OpenClaim := { program := "ytccppdmangbdoaa", sum := "8de9fb7a49d6eb6a8406bce5273a5499bc7c89b7f4271af6fb101584af820cbc", func := "verger/vergerlaw6.BlockShrinks", spec := "blockShrinks", unfollowed := true, recurses := true, apart := false }
def BlockShrinksSaid : Prop := blockShrinksRow.holds Try.pinned (OpenSpec.ofChange blockShrinksSpec)

/-- ITS FALSE NEIGHBOUR: 'it returns false'. Refute it at one input. -/
def blockShrinksWrong : ChangeSpec := { name := "blockShrinks", fn := fun _ => fun
  | [d1, d2, d3] => { results := [.lit (.bool false)], args := [d1, d2, d3] }
  | _ => none }
def BlockShrinksWrongFalsely : Prop := blockShrinksRow.holds Try.pinned (OpenSpec.ofChange blockShrinksWrong)

/-- 'vergerlaw6.BlockLevels': WHATEVER THE INPUT: true; the input reads as it did. -/
def blockLevelsSpec : ChangeSpec := { name := "blockLevels", fn := fun _ => fun
  | [d1, d2, d3] => { results := [.lit (.bool true)], args := [d1, d2, d3] }
  | _ => none }
def blockLevelsRow : OpenClaim := { program := "ytccppdmangbdoaa", sum := "8de9fb7a49d6eb6a8406bce5273a5499bc7c89b7f4271af6fb101584af820cbc", func := "verger/vergerlaw6.BlockLevels", spec := "blockLevels", unfollowed := true, recurses := true, apart := false }
def BlockLevelsSaid : Prop := blockLevelsRow.holds Try.pinned (OpenSpec.ofChange blockLevelsSpec)

/-- ITS FALSE NEIGHBOUR: 'it returns false'. Refute it at one input. -/
def blockLevelsWrong : ChangeSpec := { name := "blockLevels", fn := fun _ => fun
  | [d1, d2, d3] => { results := [.lit (.bool false)], args := [d1, d2, d3] }
  | _ => none }
def BlockLevelsWrongFalsely : Prop := blockLevelsRow.holds Try.pinned (OpenSpec.ofChange blockLevelsWrong)

/-- 'vergerlaw6.BlockCuts': WHATEVER THE INPUT: true; the input reads as it did. -/
def blockCutsSpec : ChangeSpec := { name := "blockCuts", fn := fun _ => fun
  | [d1, d2] => { results := [.lit (.bool true)], args := [d1, d2] }
  | _ => none }
def blockCutsRow : OpenClaim := { program := "ytccppdmangbdoaa", sum := "8de9fb7a49d6eb6a8406bce5273a5499bc7c89b7f4271af6fb101584af820cbc", func := "verger/vergerlaw6.BlockCuts", spec := "blockCuts", unfollowed := true, recurses := true, apart := false }
def BlockCutsSaid : Prop := blockCutsRow.holds Try.pinned (OpenSpec.ofChange blockCutsSpec)

/-- ITS FALSE NEIGHBOUR: 'it returns false'. Refute it at one input. -/
def blockCutsWrong : ChangeSpec := { name := "blockCuts", fn := fun _ => fun
  | [d1, d2] => { results := [.lit (.bool false)], args := [d1, d2] }
  | _ => none }
def BlockCutsWrongFalsely : Prop := blockCutsRow.holds Try.pinned (OpenSpec.ofChange blockCutsWrong)

/-- 'vergerlaw6.BlockFirsts': WHATEVER THE INPUT: true; the input reads as it did. -/
def blockFirstsSpec : ChangeSpec := { name := "blockFirsts", fn := fun _ => fun
  | [d1, d2, d3] => { results := [.lit (.bool true)], args := [d1, d2, d3] }
  | _ => none }
def blockFirstsRow : OpenClaim := { program := "ytccppdmangbdoaa", sum := "8de9fb7a49d6eb6a8406bce5273a5499bc7c89b7f4271af6fb101584af820cbc", func := "verger/vergerlaw6.BlockFirsts", spec := "blockFirsts", unfollowed := true, recurses := true, apart := false }
def BlockFirstsSaid : Prop := blockFirstsRow.holds Try.pinned (OpenSpec.ofChange blockFirstsSpec)

/-- ITS FALSE NEIGHBOUR: 'it returns false'. Refute it at one input. -/
def blockFirstsWrong : ChangeSpec := { name := "blockFirsts", fn := fun _ => fun
  | [d1, d2, d3] => { results := [.lit (.bool false)], args := [d1, d2, d3] }
  | _ => none }
def BlockFirstsWrongFalsely : Prop := blockFirstsRow.holds Try.pinned (OpenSpec.ofChange blockFirstsWrong)

/-- 'vergerlaw6.BlockMerges': WHATEVER THE INPUT: true; the input reads as it did. -/
def blockMergesSpec : ChangeSpec := { name := "blockMerges", fn := fun _ => fun
  | [d1, d2, d3, d4] => { results := [.lit (.bool true)], args := [d1, d2, d3, d4] }
  | _ => none }
def blockMergesRow : OpenClaim := { program := "ytccppdmangbdoaa", sum := "8de9fb7a49d6eb6a8406bce5273a5499bc7c89b7f4271af6fb101584af820cbc", func := "verger/vergerlaw6.BlockMerges", spec := "blockMerges", unfollowed := true, recurses := true, apart := false }
def BlockMergesSaid : Prop := blockMergesRow.holds Try.pinned (OpenSpec.ofChange blockMergesSpec)

/-- ITS FALSE NEIGHBOUR: 'it returns false'. Refute it at one input. -/
def blockMergesWrong : ChangeSpec := { name := "blockMerges", fn := fun _ => fun
  | [d1, d2, d3, d4] => { results := [.lit (.bool false)], args := [d1, d2, d3, d4] }
  | _ => none }
def BlockMergesWrongFalsely : Prop := blockMergesRow.holds Try.pinned (OpenSpec.ofChange blockMergesWrong)

/- THE SECOND FORM. 'bulk': how many values and letters a reading holds, each counted each time it is reached (what is shared counts as often as it is met; a slice's spare places count too). A statement '..UptoSaid' is the law's where the arguments, and the package variables that the reading takes, are together of bulk at most 1048576: NARROWER than '..Said'. Prove '..Said' where nothing that the law and all that it calls make is longer than what came in: it says more and counts as full. Else prove '..UptoSaid'. A law counts once. -/
mutual
def uptoBulk {H : Type} : DataW H → Nat
  | .lit (.string bytes) => bytes.length + 1
  | .lit _ => 1
  | .nil => 1
  | .ptr d => uptoBulk d + 1
  | .slice elems spare => uptoBulkAll elems + uptoBulkAll spare + 1
  | .agg parts => uptoBulkAll parts + 1
  | .iface _ d => uptoBulk d + 1
  | .map entries => uptoBulkEntries entries + 1
  | .held _ => 1
def uptoBulkAll {H : Type} : List (DataW H) → Nat
  | [] => 0
  | d :: r => uptoBulk d + uptoBulkAll r
def uptoBulkEntries {H : Type} : List (Lit × DataW H) → Nat
  | [] => 0
  | x :: r => uptoBulkEntry x + uptoBulkEntries r
def uptoBulkEntry {H : Type} : Lit × DataW H → Nat
  | (.string bytes, d) => bytes.length + uptoBulk d + 1
  | (_, d) => uptoBulk d + 1
 end
def uptoSmall : (H : Type) → List (DataW H) → Bool := fun _ ds => decide (uptoBulkAll ds ≤ 1048576)
def OpenSpec.upto (s : _root_.Go.ChangeSpec) : _root_.Go.OpenSpec := { _root_.Go.OpenSpec.ofChange s with cond := some uptoSmall }

/-- 'vergerlaw6.BlockMakes', WHERE WHAT IT READS IS OF BULK AT MOST 1048576: true; the input reads as it did. -/
def blockMakesUptoRow : OpenClaim := { program := "ytccppdmangbdoaa", sum := "8de9fb7a49d6eb6a8406bce5273a5499bc7c89b7f4271af6fb101584af820cbc", func := "verger/vergerlaw6.BlockMakes", spec := "blockMakes", unfollowed := true, recurses := true, apart := false, narrowed := true }
def BlockMakesUptoSaid : Prop := blockMakesUptoRow.holds Try.pinned (OpenSpec.upto blockMakesSpec)

/-- 'vergerlaw6.BlockPivots', WHERE WHAT IT READS IS OF BULK AT MOST 1048576: true; the input reads as it did. -/
def blockPivotsUptoRow : OpenClaim := { program := "ytccppdmangbdoaa", sum := "8de9fb7a49d6eb6a8406bce5273a5499bc7c89b7f4271af6fb101584af820cbc", func := "verger/vergerlaw6.BlockPivots", spec := "blockPivots", unfollowed := true, recurses := true, apart := false, narrowed := true }
def BlockPivotsUptoSaid : Prop := blockPivotsUptoRow.holds Try.pinned (OpenSpec.upto blockPivotsSpec)

/-- 'vergerlaw6.BlockShrinks', WHERE WHAT IT READS IS OF BULK AT MOST 1048576: true; the input reads as it did. -/
def blockShrinksUptoRow : OpenClaim := { program := "ytccppdmangbdoaa", sum := "8de9fb7a49d6eb6a8406bce5273a5499bc7c89b7f4271af6fb101584af820cbc", func := "verger/vergerlaw6.BlockShrinks", spec := "blockShrinks", unfollowed := true, recurses := true, apart := false, narrowed := true }
def BlockShrinksUptoSaid : Prop := blockShrinksUptoRow.holds Try.pinned (OpenSpec.upto blockShrinksSpec)

/-- 'vergerlaw6.BlockLevels', WHERE WHAT IT READS IS OF BULK AT MOST 1048576: true; the input reads as it did. -/
def blockLevelsUptoRow : OpenClaim := { program := "ytccppdmangbdoaa", sum := "8de9fb7a49d6eb6a8406bce5273a5499bc7c89b7f4271af6fb101584af820cbc", func := "verger/vergerlaw6.BlockLevels", spec := "blockLevels", unfollowed := true, recurses := true, apart := false, narrowed := true }
def BlockLevelsUptoSaid : Prop := blockLevelsUptoRow.holds Try.pinned (OpenSpec.upto blockLevelsSpec)

/-- 'vergerlaw6.BlockCuts', WHERE WHAT IT READS IS OF BULK AT MOST 1048576: true; the input reads as it did. -/
def blockCutsUptoRow : OpenClaim := { program := "ytccppdmangbdoaa", sum := "8de9fb7a49d6eb6a8406bce5273a5499bc7c89b7f4271af6fb101584af820cbc", func := "verger/vergerlaw6.BlockCuts", spec := "blockCuts", unfollowed := true, recurses := true, apart := false, narrowed := true }
def BlockCutsUptoSaid : Prop := blockCutsUptoRow.holds Try.pinned (OpenSpec.upto blockCutsSpec)

/-- 'vergerlaw6.BlockFirsts', WHERE WHAT IT READS IS OF BULK AT MOST 1048576: true; the input reads as it did. -/
def blockFirstsUptoRow : OpenClaim := { program := "ytccppdmangbdoaa", sum := "8de9fb7a49d6eb6a8406bce5273a5499bc7c89b7f4271af6fb101584af820cbc", func := "verger/vergerlaw6.BlockFirsts", spec := "blockFirsts", unfollowed := true, recurses := true, apart := false, narrowed := true }
def BlockFirstsUptoSaid : Prop := blockFirstsUptoRow.holds Try.pinned (OpenSpec.upto blockFirstsSpec)

/-- 'vergerlaw6.BlockMerges', WHERE WHAT IT READS IS OF BULK AT MOST 1048576: true; the input reads as it did. -/
def blockMergesUptoRow : OpenClaim := { program := "ytccppdmangbdoaa", sum := "8de9fb7a49d6eb6a8406bce5273a5499bc7c89b7f4271af6fb101584af820cbc", func := "verger/vergerlaw6.BlockMerges", spec := "blockMerges", unfollowed := true, recurses := true, apart := false, narrowed := true }
def BlockMergesUptoSaid : Prop := blockMergesUptoRow.holds Try.pinned (OpenSpec.upto blockMergesSpec)

end Rows
end Go.Proofs.Ytccppdmangbdoaa
