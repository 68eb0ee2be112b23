/-
  No cell of these rows narrows 'for every input' (looked for: loops, veiled, ifaces, maps, wideKeys, modest, calm, conditions, laid).
  DERIVED. THE GIVEN ROWS OF THIS SEAT. 10 by the template 'for every input the law returns true; each argument reads behind the call as it read before'; 0 by the template 'total and deterministic' (their statements: YtfhapffjnafkbaaTotals.lean).
  GIVEN WITH THE SEED: the statements are not yours to turn. If you find one false, say at which input.
  Laid BY PROGRAM, IN A SANDBOX (cutbox-rows.mjs): the forced cells as the released guide's own fill.sh prints them over the translation 7fee3ef02b1122f4… (all of the seat's roots in one cut). By AI agents, Wed Nov 11 2026. No macro, syntax, notation, axiom, sorry.
-/
import Derived.Test.YtfhapffjnafkbaaChecked
import GoSem.Claim
import GoSem.ClaimJoined
import GoSem.ClaimMapViews
import Derived.JoinedTies
import Derived.KernelRfl
namespace Go.Proofs.Ytfhapffjnafkbaa
/- THE CELL 'sum', in the pinned program and in every row, IS THE sha256 OF THE DUMP (.gsa) THAT YtfhapffjnafkbaaProg.lean LOADS. Nothing in Lean hashes anything: it is a label: what it is worth is what the hold of that sum in a sandbox is worth. -/
noncomputable def Try.pinned : Pinned := { name := "ytfhapffjnafkbaa", sum := "7fee3ef02b1122f40858dccc5200a8f5397aa7aed75eb946dfb1d0bbb877bd76", checked := Try.checked }
namespace Rows
def none {H : Type} : Left H := { results := [], args := [] }

/-- 'vergerlaw9.SlotVersions': WHATEVER THE INPUT: true; the input reads as it did. -/
def slotVersionsSpec : ChangeSpec := { name := "slotVersions", fn := fun _ => fun
  | [d] => { results := [.lit (.bool true)], args := [d] }
  | _ => none }
def slotVersionsRow : OpenClaim := { program := "ytfhapffjnafkbaa", sum := "7fee3ef02b1122f40858dccc5200a8f5397aa7aed75eb946dfb1d0bbb877bd76", func := "verger/vergerlaw9.SlotVersions", spec := "slotVersions", apart := false }
def SlotVersionsSaid : Prop := slotVersionsRow.holds Try.pinned (OpenSpec.ofChange slotVersionsSpec)

/-- ITS FALSE NEIGHBOUR: 'it returns false'. Refute it at one input. -/
def slotVersionsWrong : ChangeSpec := { name := "slotVersions", fn := fun _ => fun
  | [d] => { results := [.lit (.bool false)], args := [d] }
  | _ => none }
def SlotVersionsWrongFalsely : Prop := slotVersionsRow.holds Try.pinned (OpenSpec.ofChange slotVersionsWrong)

/-- 'vergerlaw9.SlotHelps': WHATEVER THE INPUT: true; the input reads as it did. -/
def slotHelpsSpec : ChangeSpec := { name := "slotHelps", fn := fun _ => fun
  | [d1, d2] => { results := [.lit (.bool true)], args := [d1, d2] }
  | _ => none }
def slotHelpsRow : OpenClaim := { program := "ytfhapffjnafkbaa", sum := "7fee3ef02b1122f40858dccc5200a8f5397aa7aed75eb946dfb1d0bbb877bd76", func := "verger/vergerlaw9.SlotHelps", spec := "slotHelps", apart := false }
def SlotHelpsSaid : Prop := slotHelpsRow.holds Try.pinned (OpenSpec.ofChange slotHelpsSpec)

/-- ITS FALSE NEIGHBOUR: 'it returns false'. Refute it at one input. -/
def slotHelpsWrong : ChangeSpec := { name := "slotHelps", fn := fun _ => fun
  | [d1, d2] => { results := [.lit (.bool false)], args := [d1, d2] }
  | _ => none }
def SlotHelpsWrongFalsely : Prop := slotHelpsRow.holds Try.pinned (OpenSpec.ofChange slotHelpsWrong)

/-- 'vergerlaw5.EntryLeast': WHATEVER THE INPUT: true; the input reads as it did. -/
def entryLeastSpec : ChangeSpec := { name := "entryLeast", fn := fun _ => fun
  | [d] => { results := [.lit (.bool true)], args := [d] }
  | _ => none }
def entryLeastRow : OpenClaim := { program := "ytfhapffjnafkbaa", sum := "7fee3ef02b1122f40858dccc5200a8f5397aa7aed75eb946dfb1d0bbb877bd76", func := "verger/vergerlaw5.EntryLeast", spec := "entryLeast", apart := false }
def EntryLeastSaid : Prop := entryLeastRow.holds Try.pinned (OpenSpec.ofChange entryLeastSpec)

/-- ITS FALSE NEIGHBOUR: 'it returns false'. Refute it at one input. -/
def entryLeastWrong : ChangeSpec := { name := "entryLeast", fn := fun _ => fun
  | [d] => { results := [.lit (.bool false)], args := [d] }
  | _ => none }
def EntryLeastWrongFalsely : Prop := entryLeastRow.holds Try.pinned (OpenSpec.ofChange entryLeastWrong)

/-- 'vergerlaw9.SlotApart': WHATEVER THE INPUT: true; the input reads as it did. -/
def slotApartSpec : ChangeSpec := { name := "slotApart", fn := fun _ => fun
  | [d1, d2, d3] => { results := [.lit (.bool true)], args := [d1, d2, d3] }
  | _ => none }
def slotApartRow : OpenClaim := { program := "ytfhapffjnafkbaa", sum := "7fee3ef02b1122f40858dccc5200a8f5397aa7aed75eb946dfb1d0bbb877bd76", func := "verger/vergerlaw9.SlotApart", spec := "slotApart", unfollowed := true, recurses := true, apart := false }
def SlotApartSaid : Prop := slotApartRow.holds Try.pinned (OpenSpec.ofChange slotApartSpec)

/-- ITS FALSE NEIGHBOUR: 'it returns false'. Refute it at one input. -/
def slotApartWrong : ChangeSpec := { name := "slotApart", fn := fun _ => fun
  | [d1, d2, d3] => { results := [.lit (.bool false)], args := [d1, d2, d3] }
  | _ => none }
def SlotApartWrongFalsely : Prop := slotApartRow.holds Try.pinned (OpenSpec.ofChange slotApartWrong)

/-- 'vergerlaw9.SlotPlays': WHATEVER THE INPUT: true; the input reads as it did. -/
def slotPlaysSpec : ChangeSpec := { name := "slotPlays", fn := fun _ => fun
  | [d1, d2] => { results := [.lit (.bool true)], args := [d1, d2] }
  | _ => none }
def slotPlaysRow : OpenClaim := { program := "ytfhapffjnafkbaa", sum := "7fee3ef02b1122f40858dccc5200a8f5397aa7aed75eb946dfb1d0bbb877bd76", func := "verger/vergerlaw9.SlotPlays", spec := "slotPlays", unfollowed := true, recurses := true, apart := false }
def SlotPlaysSaid : Prop := slotPlaysRow.holds Try.pinned (OpenSpec.ofChange slotPlaysSpec)

/-- ITS FALSE NEIGHBOUR: 'it returns false'. Refute it at one input. -/
def slotPlaysWrong : ChangeSpec := { name := "slotPlays", fn := fun _ => fun
  | [d1, d2] => { results := [.lit (.bool false)], args := [d1, d2] }
  | _ => none }
def SlotPlaysWrongFalsely : Prop := slotPlaysRow.holds Try.pinned (OpenSpec.ofChange slotPlaysWrong)

/-- 'vergerlaw5.EntryOrders': WHATEVER THE INPUT: true; the input reads as it did. -/
def entryOrdersSpec : ChangeSpec := { name := "entryOrders", fn := fun _ => fun
  | [d1, d2, d3, d4] => { results := [.lit (.bool true)], args := [d1, d2, d3, d4] }
  | _ => none }
def entryOrdersRow : OpenClaim := { program := "ytfhapffjnafkbaa", sum := "7fee3ef02b1122f40858dccc5200a8f5397aa7aed75eb946dfb1d0bbb877bd76", func := "verger/vergerlaw5.EntryOrders", spec := "entryOrders", unfollowed := true, recurses := true, apart := false }
def EntryOrdersSaid : Prop := entryOrdersRow.holds Try.pinned (OpenSpec.ofChange entryOrdersSpec)

/-- ITS FALSE NEIGHBOUR: 'it returns false'. Refute it at one input. -/
def entryOrdersWrong : ChangeSpec := { name := "entryOrders", fn := fun _ => fun
  | [d1, d2, d3, d4] => { results := [.lit (.bool false)], args := [d1, d2, d3, d4] }
  | _ => none }
def EntryOrdersWrongFalsely : Prop := entryOrdersRow.holds Try.pinned (OpenSpec.ofChange entryOrdersWrong)

/-- 'vergerlaw5.EntryMerges': WHATEVER THE INPUT: true; the input reads as it did. -/
def entryMergesSpec : ChangeSpec := { name := "entryMerges", fn := fun _ => fun
  | [d1, d2, d3] => { results := [.lit (.bool true)], args := [d1, d2, d3] }
  | _ => none }
def entryMergesRow : OpenClaim := { program := "ytfhapffjnafkbaa", sum := "7fee3ef02b1122f40858dccc5200a8f5397aa7aed75eb946dfb1d0bbb877bd76", func := "verger/vergerlaw5.EntryMerges", spec := "entryMerges", unfollowed := true, recurses := true, apart := false }
def EntryMergesSaid : Prop := entryMergesRow.holds Try.pinned (OpenSpec.ofChange entryMergesSpec)

/-- ITS FALSE NEIGHBOUR: 'it returns false'. Refute it at one input. -/
def entryMergesWrong : ChangeSpec := { name := "entryMerges", fn := fun _ => fun
  | [d1, d2, d3] => { results := [.lit (.bool false)], args := [d1, d2, d3] }
  | _ => none }
def EntryMergesWrongFalsely : Prop := entryMergesRow.holds Try.pinned (OpenSpec.ofChange entryMergesWrong)

/-- 'vergerlaw5.EntryRanks': WHATEVER THE INPUT: true; the input reads as it did. -/
def entryRanksSpec : ChangeSpec := { name := "entryRanks", fn := fun _ => fun
  | [d1, d2] => { results := [.lit (.bool true)], args := [d1, d2] }
  | _ => none }
def entryRanksRow : OpenClaim := { program := "ytfhapffjnafkbaa", sum := "7fee3ef02b1122f40858dccc5200a8f5397aa7aed75eb946dfb1d0bbb877bd76", func := "verger/vergerlaw5.EntryRanks", spec := "entryRanks", unfollowed := true, recurses := true, apart := false }
def EntryRanksSaid : Prop := entryRanksRow.holds Try.pinned (OpenSpec.ofChange entryRanksSpec)

/-- ITS FALSE NEIGHBOUR: 'it returns false'. Refute it at one input. -/
def entryRanksWrong : ChangeSpec := { name := "entryRanks", fn := fun _ => fun
  | [d1, d2] => { results := [.lit (.bool false)], args := [d1, d2] }
  | _ => none }
def EntryRanksWrongFalsely : Prop := entryRanksRow.holds Try.pinned (OpenSpec.ofChange entryRanksWrong)

/-- 'vergerlaw5.EntryTakes': WHATEVER THE INPUT: true; the input reads as it did. -/
def entryTakesSpec : ChangeSpec := { name := "entryTakes", fn := fun _ => fun
  | [d1, d2] => { results := [.lit (.bool true)], args := [d1, d2] }
  | _ => none }
def entryTakesRow : OpenClaim := { program := "ytfhapffjnafkbaa", sum := "7fee3ef02b1122f40858dccc5200a8f5397aa7aed75eb946dfb1d0bbb877bd76", func := "verger/vergerlaw5.EntryTakes", spec := "entryTakes", inPlace := ["slices.overlaps[verger/api.Entry]"], unfollowed := true, recurses := true, apart := false }
def EntryTakesSaid : Prop := entryTakesRow.holds Try.pinned (OpenSpec.ofChange entryTakesSpec)

/-- ITS FALSE NEIGHBOUR: 'it returns false'. Refute it at one input. -/
def entryTakesWrong : ChangeSpec := { name := "entryTakes", fn := fun _ => fun
  | [d1, d2] => { results := [.lit (.bool false)], args := [d1, d2] }
  | _ => none }
def EntryTakesWrongFalsely : Prop := entryTakesRow.holds Try.pinned (OpenSpec.ofChange entryTakesWrong)

/-- 'vergerlaw5.EntrySorts': WHATEVER THE INPUT: true; the input reads as it did. -/
def entrySortsSpec : ChangeSpec := { name := "entrySorts", fn := fun _ => fun
  | [d1, d2, d3] => { results := [.lit (.bool true)], args := [d1, d2, d3] }
  | _ => none }
def entrySortsRow : OpenClaim := { program := "ytfhapffjnafkbaa", sum := "7fee3ef02b1122f40858dccc5200a8f5397aa7aed75eb946dfb1d0bbb877bd76", func := "verger/vergerlaw5.EntrySorts", spec := "entrySorts", inPlace := ["slices.overlaps[verger/api.Entry]"], unfollowed := true, recurses := true, apart := false }
def EntrySortsSaid : Prop := entrySortsRow.holds Try.pinned (OpenSpec.ofChange entrySortsSpec)

/-- ITS FALSE NEIGHBOUR: 'it returns false'. Refute it at one input. -/
def entrySortsWrong : ChangeSpec := { name := "entrySorts", fn := fun _ => fun
  | [d1, d2, d3] => { results := [.lit (.bool false)], args := [d1, d2, d3] }
  | _ => none }
def EntrySortsWrongFalsely : Prop := entrySortsRow.holds Try.pinned (OpenSpec.ofChange entrySortsWrong)

/- THE SECOND FORM. 'bulk': how many values and letters a reading holds, each counted each time it is reached (what is shared counts as often as it is met; a slice's spare places count too). A statement '..UptoSaid' is the law's where the arguments, and the package variables that the reading takes, are together of bulk at most 1048576: NARROWER than '..Said'. Prove '..Said' where nothing that the law and all that it calls make is longer than what came in: it says more and counts as full. Else prove '..UptoSaid'. A law counts once. -/
mutual
def uptoBulk {H : Type} : DataW H → Nat
  | .lit (.string bytes) => bytes.length + 1
  | .lit _ => 1
  | .nil => 1
  | .ptr d => uptoBulk d + 1
  | .slice elems spare => uptoBulkAll elems + uptoBulkAll spare + 1
  | .agg parts => uptoBulkAll parts + 1
  | .iface _ d => uptoBulk d + 1
  | .map entries => uptoBulkEntries entries + 1
  | .held _ => 1
def uptoBulkAll {H : Type} : List (DataW H) → Nat
  | [] => 0
  | d :: r => uptoBulk d + uptoBulkAll r
def uptoBulkEntries {H : Type} : List (Lit × DataW H) → Nat
  | [] => 0
  | x :: r => uptoBulkEntry x + uptoBulkEntries r
def uptoBulkEntry {H : Type} : Lit × DataW H → Nat
  | (.string bytes, d) => bytes.length + uptoBulk d + 1
  | (_, d) => uptoBulk d + 1
 end
def uptoSmall : (H : Type) → List (DataW H) → Bool := fun _ ds => decide (uptoBulkAll ds ≤ 1048576)
def OpenSpec.upto (s : _root_.Go.ChangeSpec) : _root_.Go.OpenSpec := { _root_.Go.OpenSpec.ofChange s with cond := some uptoSmall }

/-- 'vergerlaw9.SlotVersions', WHERE WHAT IT READS IS OF BULK AT MOST 1048576: true; the input reads as it did. -/
def slotVersionsUptoRow : OpenClaim := { program := "ytfhapffjnafkbaa", sum := "7fee3ef02b1122f40858dccc5200a8f5397aa7aed75eb946dfb1d0bbb877bd76", func := "verger/vergerlaw9.SlotVersions", spec := "slotVersions", apart := false, narrowed := true }
def SlotVersionsUptoSaid : Prop := slotVersionsUptoRow.holds Try.pinned (OpenSpec.upto slotVersionsSpec)

/-- 'vergerlaw9.SlotHelps', WHERE WHAT IT READS IS OF BULK AT MOST 1048576: true; the input reads as it did. -/
def slotHelpsUptoRow : OpenClaim := { program := "ytfhapffjnafkbaa", sum := "7fee3ef02b1122f40858dccc5200a8f5397aa7aed75eb946dfb1d0bbb877bd76", func := "verger/vergerlaw9.SlotHelps", spec := "slotHelps", apart := false, narrowed := true }
def SlotHelpsUptoSaid : Prop := slotHelpsUptoRow.holds Try.pinned (OpenSpec.upto slotHelpsSpec)

/-- 'vergerlaw5.EntryLeast', WHERE WHAT IT READS IS OF BULK AT MOST 1048576: true; the input reads as it did. -/
def entryLeastUptoRow : OpenClaim := { program := "ytfhapffjnafkbaa", sum := "7fee3ef02b1122f40858dccc5200a8f5397aa7aed75eb946dfb1d0bbb877bd76", func := "verger/vergerlaw5.EntryLeast", spec := "entryLeast", apart := false, narrowed := true }
def EntryLeastUptoSaid : Prop := entryLeastUptoRow.holds Try.pinned (OpenSpec.upto entryLeastSpec)

/-- 'vergerlaw9.SlotApart', WHERE WHAT IT READS IS OF BULK AT MOST 1048576: true; the input reads as it did. -/
def slotApartUptoRow : OpenClaim := { program := "ytfhapffjnafkbaa", sum := "7fee3ef02b1122f40858dccc5200a8f5397aa7aed75eb946dfb1d0bbb877bd76", func := "verger/vergerlaw9.SlotApart", spec := "slotApart", unfollowed := true, recurses := true, apart := false, narrowed := true }
def SlotApartUptoSaid : Prop := slotApartUptoRow.holds Try.pinned (OpenSpec.upto slotApartSpec)

/-- 'vergerlaw9.SlotPlays', WHERE WHAT IT READS IS OF BULK AT MOST 1048576: true; the input reads as it did. -/
def slotPlaysUptoRow : OpenClaim := { program := "ytfhapffjnafkbaa", sum := "7fee3ef02b1122f40858dccc5200a8f5397aa7aed75eb946dfb1d0bbb877bd76", func := "verger/vergerlaw9.SlotPlays", spec := "slotPlays", unfollowed := true, recurses := true, apart := false, narrowed := true }
def SlotPlaysUptoSaid : Prop := slotPlaysUptoRow.holds Try.pinned (OpenSpec.upto slotPlaysSpec)

/-- 'vergerlaw5.EntryOrders', WHERE WHAT IT READS IS OF BULK AT MOST 1048576: true; the input reads as it did. -/
def entryOrdersUptoRow : OpenClaim := { program := "ytfhapffjnafkbaa", sum := "7fee3ef02b1122f40858dccc5200a8f5397aa7aed75eb946dfb1d0bbb877bd76", func := "verger/vergerlaw5.EntryOrders", spec := "entryOrders", unfollowed := true, recurses := true, apart := false, narrowed := true }
def EntryOrdersUptoSaid : Prop := entryOrdersUptoRow.holds Try.pinned (OpenSpec.upto entryOrdersSpec)

/-- 'vergerlaw5.EntryMerges', WHERE WHAT IT READS IS OF BULK AT MOST 1048576: true; the input reads as it did. -/
def entryMergesUptoRow : OpenClaim := { program := "ytfhapffjnafkbaa", sum := "7fee3ef02b1122f40858dccc5200a8f5397aa7aed75eb946dfb1d0bbb877bd76", func := "verger/vergerlaw5.EntryMerges", spec := "entryMerges", unfollowed := true, recurses := true, apart := false, narrowed := true }
def EntryMergesUptoSaid : Prop := entryMergesUptoRow.holds Try.pinned (OpenSpec.upto entryMergesSpec)

/-- 'vergerlaw5.EntryRanks', WHERE WHAT IT READS IS OF BULK AT MOST 1048576: true; the input reads as it did. -/
def entryRanksUptoRow : OpenClaim := { program := "ytfhapffjnafkbaa", sum := "7fee3ef02b1122f40858dccc5200a8f5397aa7aed75eb946dfb1d0bbb877bd76", func := "verger/vergerlaw5.EntryRanks", spec := "entryRanks", unfollowed := true, recurses := true, apart := false, narrowed := true }
def EntryRanksUptoSaid : Prop := entryRanksUptoRow.holds Try.pinned (OpenSpec.upto entryRanksSpec)

/-- 'vergerlaw5.EntryTakes', WHERE WHAT IT READS IS OF BULK AT MOST 1048576: true; the input reads as it did. -/
def entryTakesUptoRow : OpenClaim := { program := "ytfhapffjnafkbaa", sum := "7fee3ef02b1122f40858dccc5200a8f5397aa7aed75eb946dfb1d0bbb877bd76", func := "verger/vergerlaw5.EntryTakes", spec := "entryTakes", inPlace := ["slices.overlaps[verger/api.Entry]"], unfollowed := true, recurses := true, apart := false, narrowed := true }
def EntryTakesUptoSaid : Prop := entryTakesUptoRow.holds Try.pinned (OpenSpec.upto entryTakesSpec)

/-- 'vergerlaw5.EntrySorts', WHERE WHAT IT READS IS OF BULK AT MOST 1048576: true; the input reads as it did. -/
def entrySortsUptoRow : OpenClaim := { program := "ytfhapffjnafkbaa", sum := "7fee3ef02b1122f40858dccc5200a8f5397aa7aed75eb946dfb1d0bbb877bd76", func := "verger/vergerlaw5.EntrySorts", spec := "entrySorts", inPlace := ["slices.overlaps[verger/api.Entry]"], unfollowed := true, recurses := true, apart := false, narrowed := true }
def EntrySortsUptoSaid : Prop := entrySortsUptoRow.holds Try.pinned (OpenSpec.upto entrySortsSpec)

end Rows
end Go.Proofs.Ytfhapffjnafkbaa
