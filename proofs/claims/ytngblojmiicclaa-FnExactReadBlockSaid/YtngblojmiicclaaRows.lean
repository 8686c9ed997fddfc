/-
  No cell of these rows narrows 'for every input' (looked for: loops, veiled, ifaces, maps, wideKeys, modest, calm, conditions, laid).
  DERIVED. THE GIVEN ROWS OF THIS SEAT. 6 by the template 'for every input the law returns true; each argument reads behind the call as it read before'; 0 by the template 'total and deterministic' (their statements: YtngblojmiicclaaTotals.lean).
  GIVEN WITH THE SEED: the statements are not yours to turn. If you find one false, say at which input.
  Laid BY PROGRAM, IN A SANDBOX (cutbox-rows.mjs): the forced cells as the released guide's own fill.sh prints them over the translation 86e3b03e76176dda… (all of the seat's roots in one cut). By AI agents, Wed Nov 11 2026. No macro, syntax, notation, axiom, sorry.
-/
import Derived.Test.YtngblojmiicclaaChecked
import GoSem.Claim
import GoSem.ClaimJoined
import GoSem.ClaimMapViews
import Derived.JoinedTies
import Derived.KernelRfl
namespace Go.Proofs.Ytngblojmiicclaa
/- THE CELL 'sum', in the pinned program and in every row, IS THE sha256 OF THE DUMP (.gsa) THAT YtngblojmiicclaaProg.lean LOADS. Nothing in Lean hashes anything: it is a label: what it is worth is what the hold of that sum in a sandbox is worth. -/
noncomputable def Try.pinned : Pinned := { name := "ytngblojmiicclaa", sum := "86e3b03e76176dda5a20efd1b3d8dd434e320e72b6503c903032101d9b5894a0", checked := Try.checked }
namespace Rows
def none {H : Type} : Left H := { results := [], args := [] }

/-- 'laws.FnExactBlockBytes': WHATEVER THE INPUT: true; the input reads as it did. -/
def fnExactBlockBytesSpec : ChangeSpec := { name := "fnExactBlockBytes", fn := fun _ => fun
  | [d] => { results := [.lit (.bool true)], args := [d] }
  | _ => none }
def fnExactBlockBytesRow : OpenClaim := { program := "ytngblojmiicclaa", sum := "86e3b03e76176dda5a20efd1b3d8dd434e320e72b6503c903032101d9b5894a0", func := "loop.example/g00537/laws.FnExactBlockBytes", spec := "fnExactBlockBytes", unfollowed := true, recurses := true, apart := false }
def FnExactBlockBytesSaid : Prop := fnExactBlockBytesRow.holds Try.pinned (OpenSpec.ofChange fnExactBlockBytesSpec)

/-- ITS FALSE NEIGHBOUR: 'it returns false'. Refute it at one input. -/
def fnExactBlockBytesWrong : ChangeSpec := { name := "fnExactBlockBytes", fn := fun _ => fun
  | [d] => { results := [.lit (.bool false)], args := [d] }
  | _ => none }
def FnExactBlockBytesWrongFalsely : Prop := fnExactBlockBytesRow.holds Try.pinned (OpenSpec.ofChange fnExactBlockBytesWrong)

/-- 'laws.FnExactReadBlock': WHATEVER THE INPUT: true; the input reads as it did. -/
def fnExactReadBlockSpec : ChangeSpec := { name := "fnExactReadBlock", fn := fun _ => fun
  | [d] => { results := [.lit (.bool true)], args := [d] }
  | _ => none }
def fnExactReadBlockRow : OpenClaim := { program := "ytngblojmiicclaa", sum := "86e3b03e76176dda5a20efd1b3d8dd434e320e72b6503c903032101d9b5894a0", func := "loop.example/g00537/laws.FnExactReadBlock", spec := "fnExactReadBlock", unfollowed := true, recurses := true, apart := false }
def FnExactReadBlockSaid : Prop := fnExactReadBlockRow.holds Try.pinned (OpenSpec.ofChange fnExactReadBlockSpec)

/-- ITS FALSE NEIGHBOUR: 'it returns false'. Refute it at one input. -/
def fnExactReadBlockWrong : ChangeSpec := { name := "fnExactReadBlock", fn := fun _ => fun
  | [d] => { results := [.lit (.bool false)], args := [d] }
  | _ => none }
def FnExactReadBlockWrongFalsely : Prop := fnExactReadBlockRow.holds Try.pinned (OpenSpec.ofChange fnExactReadBlockWrong)

/-- 'laws.FnExactCompareValues': WHATEVER THE INPUT: true; the input reads as it did. -/
def fnExactCompareValuesSpec : ChangeSpec := { name := "fnExactCompareValues", fn := fun _ => fun
  | [d1, d2] => { results := [.lit (.bool true)], args := [d1, d2] }
  | _ => none }
def fnExactCompareValuesRow : OpenClaim := { program := "ytngblojmiicclaa", sum := "86e3b03e76176dda5a20efd1b3d8dd434e320e72b6503c903032101d9b5894a0", func := "loop.example/g00537/laws.FnExactCompareValues", spec := "fnExactCompareValues", inPlace := ["internal/bytealg.abigen_runtime_cmpstring"], apart := false }
def FnExactCompareValuesSaid : Prop := fnExactCompareValuesRow.holds Try.pinned (OpenSpec.ofChange fnExactCompareValuesSpec)

/-- ITS FALSE NEIGHBOUR: 'it returns false'. Refute it at one input. -/
def fnExactCompareValuesWrong : ChangeSpec := { name := "fnExactCompareValues", fn := fun _ => fun
  | [d1, d2] => { results := [.lit (.bool false)], args := [d1, d2] }
  | _ => none }
def FnExactCompareValuesWrongFalsely : Prop := fnExactCompareValuesRow.holds Try.pinned (OpenSpec.ofChange fnExactCompareValuesWrong)

/-- 'laws.FnExactCompareRows': WHATEVER THE INPUT: true; the input reads as it did. -/
def fnExactCompareRowsSpec : ChangeSpec := { name := "fnExactCompareRows", fn := fun _ => fun
  | [d1, d2] => { results := [.lit (.bool true)], args := [d1, d2] }
  | _ => none }
def fnExactCompareRowsRow : OpenClaim := { program := "ytngblojmiicclaa", sum := "86e3b03e76176dda5a20efd1b3d8dd434e320e72b6503c903032101d9b5894a0", func := "loop.example/g00537/laws.FnExactCompareRows", spec := "fnExactCompareRows", inPlace := ["internal/bytealg.abigen_runtime_cmpstring"], unfollowed := true, recurses := true, apart := false }
def FnExactCompareRowsSaid : Prop := fnExactCompareRowsRow.holds Try.pinned (OpenSpec.ofChange fnExactCompareRowsSpec)

/-- ITS FALSE NEIGHBOUR: 'it returns false'. Refute it at one input. -/
def fnExactCompareRowsWrong : ChangeSpec := { name := "fnExactCompareRows", fn := fun _ => fun
  | [d1, d2] => { results := [.lit (.bool false)], args := [d1, d2] }
  | _ => none }
def FnExactCompareRowsWrongFalsely : Prop := fnExactCompareRowsRow.holds Try.pinned (OpenSpec.ofChange fnExactCompareRowsWrong)

/-- 'laws.FnExactGoodVersions': WHATEVER THE INPUT: true; the input reads as it did. -/
def fnExactGoodVersionsSpec : ChangeSpec := { name := "fnExactGoodVersions", fn := fun _ => fun
  | [d] => { results := [.lit (.bool true)], args := [d] }
  | _ => none }
def fnExactGoodVersionsRow : OpenClaim := { program := "ytngblojmiicclaa", sum := "86e3b03e76176dda5a20efd1b3d8dd434e320e72b6503c903032101d9b5894a0", func := "loop.example/g00537/laws.FnExactGoodVersions", spec := "fnExactGoodVersions", inPlace := ["internal/bytealg.abigen_runtime_cmpstring"], apart := false }
def FnExactGoodVersionsSaid : Prop := fnExactGoodVersionsRow.holds Try.pinned (OpenSpec.ofChange fnExactGoodVersionsSpec)

/-- ITS FALSE NEIGHBOUR: 'it returns false'. Refute it at one input. -/
def fnExactGoodVersionsWrong : ChangeSpec := { name := "fnExactGoodVersions", fn := fun _ => fun
  | [d] => { results := [.lit (.bool false)], args := [d] }
  | _ => none }
def FnExactGoodVersionsWrongFalsely : Prop := fnExactGoodVersionsRow.holds Try.pinned (OpenSpec.ofChange fnExactGoodVersionsWrong)

/-- 'laws.FnExactAsOf': WHATEVER THE INPUT: true; the input reads as it did. -/
def fnExactAsOfSpec : ChangeSpec := { name := "fnExactAsOf", fn := fun _ => fun
  | [d1, d2, d3] => { results := [.lit (.bool true)], args := [d1, d2, d3] }
  | _ => none }
def fnExactAsOfRow : OpenClaim := { program := "ytngblojmiicclaa", sum := "86e3b03e76176dda5a20efd1b3d8dd434e320e72b6503c903032101d9b5894a0", func := "loop.example/g00537/laws.FnExactAsOf", spec := "fnExactAsOf", inPlace := ["internal/bytealg.abigen_runtime_cmpstring"], apart := false }
def FnExactAsOfSaid : Prop := fnExactAsOfRow.holds Try.pinned (OpenSpec.ofChange fnExactAsOfSpec)

/-- ITS FALSE NEIGHBOUR: 'it returns false'. Refute it at one input. -/
def fnExactAsOfWrong : ChangeSpec := { name := "fnExactAsOf", fn := fun _ => fun
  | [d1, d2, d3] => { results := [.lit (.bool false)], args := [d1, d2, d3] }
  | _ => none }
def FnExactAsOfWrongFalsely : Prop := fnExactAsOfRow.holds Try.pinned (OpenSpec.ofChange fnExactAsOfWrong)

/- THE SECOND FORM. 'bulk': how many values and letters a reading holds, each counted each time it is reached (what is shared counts as often as it is met; a slice's spare places count too). A statement '..UptoSaid' is the law's where the arguments, and the package variables that the reading takes, are together of bulk at most 1048576: NARROWER than '..Said'. Prove '..Said' where nothing that the law and all that it calls make is longer than what came in: it says more and counts as full. Else prove '..UptoSaid'. A law counts once. -/
mutual
def uptoBulk {H : Type} : DataW H → Nat
  | .lit (.string bytes) => bytes.length + 1
  | .lit _ => 1
  | .nil => 1
  | .ptr d => uptoBulk d + 1
  | .slice elems spare => uptoBulkAll elems + uptoBulkAll spare + 1
  | .agg parts => uptoBulkAll parts + 1
  | .iface _ d => uptoBulk d + 1
  | .map entries => uptoBulkEntries entries + 1
  | .held _ => 1
def uptoBulkAll {H : Type} : List (DataW H) → Nat
  | [] => 0
  | d :: r => uptoBulk d + uptoBulkAll r
def uptoBulkEntries {H : Type} : List (Lit × DataW H) → Nat
  | [] => 0
  | x :: r => uptoBulkEntry x + uptoBulkEntries r
def uptoBulkEntry {H : Type} : Lit × DataW H → Nat
  | (.string bytes, d) => bytes.length + uptoBulk d + 1
  | (_, d) => uptoBulk d + 1
 end
def uptoSmall : (H : Type) → List (DataW H) → Bool := fun _ ds => decide (uptoBulkAll ds ≤ 1048576)
def OpenSpec.upto (s : _root_.Go.ChangeSpec) : _root_.Go.OpenSpec := { _root_.Go.OpenSpec.ofChange s with cond := some uptoSmall }

/-- 'laws.FnExactBlockBytes', WHERE WHAT IT READS IS OF BULK AT MOST 1048576: true; the input reads as it did. -/
def fnExactBlockBytesUptoRow : OpenClaim := { program := "ytngblojmiicclaa", sum := "86e3b03e76176dda5a20efd1b3d8dd434e320e72b6503c903032101d9b5894a0", func := "loop.example/g00537/laws.FnExactBlockBytes", spec := "fnExactBlockBytes", unfollowed := true, recurses := true, apart := false, narrowed := true }
def FnExactBlockBytesUptoSaid : Prop := fnExactBlockBytesUptoRow.holds Try.pinned (OpenSpec.upto fnExactBlockBytesSpec)

/-- 'laws.FnExactReadBlock', WHERE WHAT IT READS IS OF BULK AT MOST 1048576: true; the input reads as it did. -/
def fnExactReadBlockUptoRow : OpenClaim := { program := "ytngblojmiicclaa", sum := "86e3b03e76176dda5a20efd1b3d8dd434e320e72b6503c903032101d9b5894a0", func := "loop.example/g00537/laws.FnExactReadBlock", spec := "fnExactReadBlock", unfollowed := true, recurses := true, apart := false, narrowed := true }
def FnExactReadBlockUptoSaid : Prop := fnExactReadBlockUptoRow.holds Try.pinned (OpenSpec.upto fnExactReadBlockSpec)

/-- 'laws.FnExactCompareValues', WHERE WHAT IT READS IS OF BULK AT MOST 1048576: true; the input reads as it did. -/
def fnExactCompareValuesUptoRow : OpenClaim := { program := "ytngblojmiicclaa", sum := "86e3b03e76176dda5a20efd1b3d8dd434e320e72b6503c903032101d9b5894a0", func := "loop.example/g00537/laws.FnExactCompareValues", spec := "fnExactCompareValues", inPlace := ["internal/bytealg.abigen_runtime_cmpstring"], apart := false, narrowed := true }
def FnExactCompareValuesUptoSaid : Prop := fnExactCompareValuesUptoRow.holds Try.pinned (OpenSpec.upto fnExactCompareValuesSpec)

/-- 'laws.FnExactCompareRows', WHERE WHAT IT READS IS OF BULK AT MOST 1048576: true; the input reads as it did. -/
def fnExactCompareRowsUptoRow : OpenClaim := { program := "ytngblojmiicclaa", sum := "86e3b03e76176dda5a20efd1b3d8dd434e320e72b6503c903032101d9b5894a0", func := "loop.example/g00537/laws.FnExactCompareRows", spec := "fnExactCompareRows", inPlace := ["internal/bytealg.abigen_runtime_cmpstring"], unfollowed := true, recurses := true, apart := false, narrowed := true }
def FnExactCompareRowsUptoSaid : Prop := fnExactCompareRowsUptoRow.holds Try.pinned (OpenSpec.upto fnExactCompareRowsSpec)

/-- 'laws.FnExactGoodVersions', WHERE WHAT IT READS IS OF BULK AT MOST 1048576: true; the input reads as it did. -/
def fnExactGoodVersionsUptoRow : OpenClaim := { program := "ytngblojmiicclaa", sum := "86e3b03e76176dda5a20efd1b3d8dd434e320e72b6503c903032101d9b5894a0", func := "loop.example/g00537/laws.FnExactGoodVersions", spec := "fnExactGoodVersions", inPlace := ["internal/bytealg.abigen_runtime_cmpstring"], apart := false, narrowed := true }
def FnExactGoodVersionsUptoSaid : Prop := fnExactGoodVersionsUptoRow.holds Try.pinned (OpenSpec.upto fnExactGoodVersionsSpec)

/-- 'laws.FnExactAsOf', WHERE WHAT IT READS IS OF BULK AT MOST 1048576: true; the input reads as it did. -/
def fnExactAsOfUptoRow : OpenClaim := { program := "ytngblojmiicclaa", sum := "86e3b03e76176dda5a20efd1b3d8dd434e320e72b6503c903032101d9b5894a0", func := "loop.example/g00537/laws.FnExactAsOf", spec := "fnExactAsOf", inPlace := ["internal/bytealg.abigen_runtime_cmpstring"], apart := false, narrowed := true }
def FnExactAsOfUptoSaid : Prop := fnExactAsOfUptoRow.holds Try.pinned (OpenSpec.upto fnExactAsOfSpec)

end Rows
end Go.Proofs.Ytngblojmiicclaa
