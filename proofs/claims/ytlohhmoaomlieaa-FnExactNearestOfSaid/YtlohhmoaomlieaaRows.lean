/-
  No cell of these rows narrows 'for every input' (looked for: loops, veiled, ifaces, maps, wideKeys, modest, calm, conditions, laid).
  DERIVED. THE GIVEN ROWS OF THIS SEAT. 8 by the template 'for every input the law returns true; each argument reads behind the call as it read before'; 0 by the template 'total and deterministic' (their statements: YtlohhmoaomlieaaTotals.lean).
  GIVEN WITH THE SEED: the statements are not yours to turn. If you find one false, say at which input.
  Laid BY PROGRAM, IN A SANDBOX (cutbox-rows.mjs): the forced cells as the released guide's own fill.sh prints them over the translation 4f88c51b0e12e550… (all of the seat's roots in one cut). By AI agents, Wed Nov 11 2026. No macro, syntax, notation, axiom, sorry.
-/
import Derived.Test.YtlohhmoaomlieaaChecked
import GoSem.Claim
import GoSem.ClaimJoined
import GoSem.ClaimMapViews
import Derived.JoinedTies
import Derived.KernelRfl
namespace Go.Proofs.Ytlohhmoaomlieaa
/- THE CELL 'sum', in the pinned program and in every row, IS THE sha256 OF THE DUMP (.gsa) THAT YtlohhmoaomlieaaProg.lean LOADS. Nothing in Lean hashes anything: it is a label: what it is worth is what the hold of that sum in a sandbox is worth. -/
noncomputable def Try.pinned : Pinned := { name := "ytlohhmoaomlieaa", sum := "4f88c51b0e12e5501d767a269224bb9730a491ba10f6e6f13daf081d0e71d4ed", checked := Try.checked }
namespace Rows
def none {H : Type} : Left H := { results := [], args := [] }

/-- 'laws.FnExactBuildKnots': WHATEVER THE INPUT: true; the input reads as it did. -/
def fnExactBuildKnotsSpec : ChangeSpec := { name := "fnExactBuildKnots", fn := fun _ => fun
  | [d] => { results := [.lit (.bool true)], args := [d] }
  | _ => none }
def fnExactBuildKnotsRow : OpenClaim := { program := "ytlohhmoaomlieaa", sum := "4f88c51b0e12e5501d767a269224bb9730a491ba10f6e6f13daf081d0e71d4ed", func := "loop.example/g00537/laws.FnExactBuildKnots", spec := "fnExactBuildKnots", inPlace := ["slices.overlaps[int]"], apart := false }
def FnExactBuildKnotsSaid : Prop := fnExactBuildKnotsRow.holds Try.pinned (OpenSpec.ofChange fnExactBuildKnotsSpec)

/-- ITS FALSE NEIGHBOUR: 'it returns false'. Refute it at one input. -/
def fnExactBuildKnotsWrong : ChangeSpec := { name := "fnExactBuildKnots", fn := fun _ => fun
  | [d] => { results := [.lit (.bool false)], args := [d] }
  | _ => none }
def FnExactBuildKnotsWrongFalsely : Prop := fnExactBuildKnotsRow.holds Try.pinned (OpenSpec.ofChange fnExactBuildKnotsWrong)

/-- 'laws.FnExactGoodKnots': WHATEVER THE INPUT: true; the input reads as it did. -/
def fnExactGoodKnotsSpec : ChangeSpec := { name := "fnExactGoodKnots", fn := fun _ => fun
  | [d] => { results := [.lit (.bool true)], args := [d] }
  | _ => none }
def fnExactGoodKnotsRow : OpenClaim := { program := "ytlohhmoaomlieaa", sum := "4f88c51b0e12e5501d767a269224bb9730a491ba10f6e6f13daf081d0e71d4ed", func := "loop.example/g00537/laws.FnExactGoodKnots", spec := "fnExactGoodKnots", inPlace := ["slices.overlaps[int]"], unfollowed := true, recurses := true, apart := false }
def FnExactGoodKnotsSaid : Prop := fnExactGoodKnotsRow.holds Try.pinned (OpenSpec.ofChange fnExactGoodKnotsSpec)

/-- ITS FALSE NEIGHBOUR: 'it returns false'. Refute it at one input. -/
def fnExactGoodKnotsWrong : ChangeSpec := { name := "fnExactGoodKnots", fn := fun _ => fun
  | [d] => { results := [.lit (.bool false)], args := [d] }
  | _ => none }
def FnExactGoodKnotsWrongFalsely : Prop := fnExactGoodKnotsRow.holds Try.pinned (OpenSpec.ofChange fnExactGoodKnotsWrong)

/-- 'laws.FnExactWordsOfKnots': WHATEVER THE INPUT: true; the input reads as it did. -/
def fnExactWordsOfKnotsSpec : ChangeSpec := { name := "fnExactWordsOfKnots", fn := fun _ => fun
  | [d] => { results := [.lit (.bool true)], args := [d] }
  | _ => none }
def fnExactWordsOfKnotsRow : OpenClaim := { program := "ytlohhmoaomlieaa", sum := "4f88c51b0e12e5501d767a269224bb9730a491ba10f6e6f13daf081d0e71d4ed", func := "loop.example/g00537/laws.FnExactWordsOfKnots", spec := "fnExactWordsOfKnots", inPlace := ["slices.overlaps[int]"], unfollowed := true, recurses := true, apart := false }
def FnExactWordsOfKnotsSaid : Prop := fnExactWordsOfKnotsRow.holds Try.pinned (OpenSpec.ofChange fnExactWordsOfKnotsSpec)

/-- ITS FALSE NEIGHBOUR: 'it returns false'. Refute it at one input. -/
def fnExactWordsOfKnotsWrong : ChangeSpec := { name := "fnExactWordsOfKnots", fn := fun _ => fun
  | [d] => { results := [.lit (.bool false)], args := [d] }
  | _ => none }
def FnExactWordsOfKnotsWrongFalsely : Prop := fnExactWordsOfKnotsRow.holds Try.pinned (OpenSpec.ofChange fnExactWordsOfKnotsWrong)

/-- 'laws.FnExactPutWord': WHATEVER THE INPUT: true; the input reads as it did. -/
def fnExactPutWordSpec : ChangeSpec := { name := "fnExactPutWord", fn := fun _ => fun
  | [d1, d2] => { results := [.lit (.bool true)], args := [d1, d2] }
  | _ => none }
def fnExactPutWordRow : OpenClaim := { program := "ytlohhmoaomlieaa", sum := "4f88c51b0e12e5501d767a269224bb9730a491ba10f6e6f13daf081d0e71d4ed", func := "loop.example/g00537/laws.FnExactPutWord", spec := "fnExactPutWord", inPlace := ["slices.overlaps[int]"], unfollowed := true, recurses := true, apart := false }
def FnExactPutWordSaid : Prop := fnExactPutWordRow.holds Try.pinned (OpenSpec.ofChange fnExactPutWordSpec)

/-- ITS FALSE NEIGHBOUR: 'it returns false'. Refute it at one input. -/
def fnExactPutWordWrong : ChangeSpec := { name := "fnExactPutWord", fn := fun _ => fun
  | [d1, d2] => { results := [.lit (.bool false)], args := [d1, d2] }
  | _ => none }
def FnExactPutWordWrongFalsely : Prop := fnExactPutWordRow.holds Try.pinned (OpenSpec.ofChange fnExactPutWordWrong)

/-- 'laws.FnExactNearestOf': WHATEVER THE INPUT: true; the input reads as it did. -/
def fnExactNearestOfSpec : ChangeSpec := { name := "fnExactNearestOf", fn := fun _ => fun
  | [d1, d2] => { results := [.lit (.bool true)], args := [d1, d2] }
  | _ => none }
def fnExactNearestOfRow : OpenClaim := { program := "ytlohhmoaomlieaa", sum := "4f88c51b0e12e5501d767a269224bb9730a491ba10f6e6f13daf081d0e71d4ed", func := "loop.example/g00537/laws.FnExactNearestOf", spec := "fnExactNearestOf", inPlace := ["slices.overlaps[int]"], unfollowed := true, recurses := true, apart := false }
def FnExactNearestOfSaid : Prop := fnExactNearestOfRow.holds Try.pinned (OpenSpec.ofChange fnExactNearestOfSpec)

/-- ITS FALSE NEIGHBOUR: 'it returns false'. Refute it at one input. -/
def fnExactNearestOfWrong : ChangeSpec := { name := "fnExactNearestOf", fn := fun _ => fun
  | [d1, d2] => { results := [.lit (.bool false)], args := [d1, d2] }
  | _ => none }
def FnExactNearestOfWrongFalsely : Prop := fnExactNearestOfRow.holds Try.pinned (OpenSpec.ofChange fnExactNearestOfWrong)

/-- 'laws.FnExactFindNear': WHATEVER THE INPUT: true; the input reads as it did. -/
def fnExactFindNearSpec : ChangeSpec := { name := "fnExactFindNear", fn := fun _ => fun
  | [d1, d2, d3] => { results := [.lit (.bool true)], args := [d1, d2, d3] }
  | _ => none }
def fnExactFindNearRow : OpenClaim := { program := "ytlohhmoaomlieaa", sum := "4f88c51b0e12e5501d767a269224bb9730a491ba10f6e6f13daf081d0e71d4ed", func := "loop.example/g00537/laws.FnExactFindNear", spec := "fnExactFindNear", inPlace := ["slices.overlaps[int]"], unfollowed := true, recurses := true, apart := false }
def FnExactFindNearSaid : Prop := fnExactFindNearRow.holds Try.pinned (OpenSpec.ofChange fnExactFindNearSpec)

/-- ITS FALSE NEIGHBOUR: 'it returns false'. Refute it at one input. -/
def fnExactFindNearWrong : ChangeSpec := { name := "fnExactFindNear", fn := fun _ => fun
  | [d1, d2, d3] => { results := [.lit (.bool false)], args := [d1, d2, d3] }
  | _ => none }
def FnExactFindNearWrongFalsely : Prop := fnExactFindNearRow.holds Try.pinned (OpenSpec.ofChange fnExactFindNearWrong)

/-- 'laws.FnFars': WHATEVER THE INPUT: true; the input reads as it did. -/
def fnFarsSpec : ChangeSpec := { name := "fnFars", fn := fun _ => fun
  | [d1, d2] => { results := [.lit (.bool true)], args := [d1, d2] }
  | _ => none }
def fnFarsRow : OpenClaim := { program := "ytlohhmoaomlieaa", sum := "4f88c51b0e12e5501d767a269224bb9730a491ba10f6e6f13daf081d0e71d4ed", func := "loop.example/g00537/laws.FnFars", spec := "fnFars", inPlace := ["slices.overlaps[int]"], unfollowed := true, recurses := true, apart := false }
def FnFarsSaid : Prop := fnFarsRow.holds Try.pinned (OpenSpec.ofChange fnFarsSpec)

/-- ITS FALSE NEIGHBOUR: 'it returns false'. Refute it at one input. -/
def fnFarsWrong : ChangeSpec := { name := "fnFars", fn := fun _ => fun
  | [d1, d2] => { results := [.lit (.bool false)], args := [d1, d2] }
  | _ => none }
def FnFarsWrongFalsely : Prop := fnFarsRow.holds Try.pinned (OpenSpec.ofChange fnFarsWrong)

/-- 'laws.FnNear': WHATEVER THE INPUT: true; the input reads as it did. -/
def fnNearSpec : ChangeSpec := { name := "fnNear", fn := fun _ => fun
  | [d1, d2] => { results := [.lit (.bool true)], args := [d1, d2] }
  | _ => none }
def fnNearRow : OpenClaim := { program := "ytlohhmoaomlieaa", sum := "4f88c51b0e12e5501d767a269224bb9730a491ba10f6e6f13daf081d0e71d4ed", func := "loop.example/g00537/laws.FnNear", spec := "fnNear", inPlace := ["slices.overlaps[int]"], unfollowed := true, recurses := true, apart := false }
def FnNearSaid : Prop := fnNearRow.holds Try.pinned (OpenSpec.ofChange fnNearSpec)

/-- ITS FALSE NEIGHBOUR: 'it returns false'. Refute it at one input. -/
def fnNearWrong : ChangeSpec := { name := "fnNear", fn := fun _ => fun
  | [d1, d2] => { results := [.lit (.bool false)], args := [d1, d2] }
  | _ => none }
def FnNearWrongFalsely : Prop := fnNearRow.holds Try.pinned (OpenSpec.ofChange fnNearWrong)

/- THE SECOND FORM. 'bulk': how many values and letters a reading holds, each counted each time it is reached (what is shared counts as often as it is met; a slice's spare places count too). A statement '..UptoSaid' is the law's where the arguments, and the package variables that the reading takes, are together of bulk at most 1048576: NARROWER than '..Said'. Prove '..Said' where nothing that the law and all that it calls make is longer than what came in: it says more and counts as full. Else prove '..UptoSaid'. A law counts once. -/
mutual
def uptoBulk {H : Type} : DataW H → Nat
  | .lit (.string bytes) => bytes.length + 1
  | .lit _ => 1
  | .nil => 1
  | .ptr d => uptoBulk d + 1
  | .slice elems spare => uptoBulkAll elems + uptoBulkAll spare + 1
  | .agg parts => uptoBulkAll parts + 1
  | .iface _ d => uptoBulk d + 1
  | .map entries => uptoBulkEntries entries + 1
  | .held _ => 1
def uptoBulkAll {H : Type} : List (DataW H) → Nat
  | [] => 0
  | d :: r => uptoBulk d + uptoBulkAll r
def uptoBulkEntries {H : Type} : List (Lit × DataW H) → Nat
  | [] => 0
  | x :: r => uptoBulkEntry x + uptoBulkEntries r
def uptoBulkEntry {H : Type} : Lit × DataW H → Nat
  | (.string bytes, d) => bytes.length + uptoBulk d + 1
  | (_, d) => uptoBulk d + 1
 end
def uptoSmall : (H : Type) → List (DataW H) → Bool := fun _ ds => decide (uptoBulkAll ds ≤ 1048576)
def OpenSpec.upto (s : _root_.Go.ChangeSpec) : _root_.Go.OpenSpec := { _root_.Go.OpenSpec.ofChange s with cond := some uptoSmall }

/-- 'laws.FnExactBuildKnots', WHERE WHAT IT READS IS OF BULK AT MOST 1048576: true; the input reads as it did. -/
def fnExactBuildKnotsUptoRow : OpenClaim := { program := "ytlohhmoaomlieaa", sum := "4f88c51b0e12e5501d767a269224bb9730a491ba10f6e6f13daf081d0e71d4ed", func := "loop.example/g00537/laws.FnExactBuildKnots", spec := "fnExactBuildKnots", inPlace := ["slices.overlaps[int]"], apart := false, narrowed := true }
def FnExactBuildKnotsUptoSaid : Prop := fnExactBuildKnotsUptoRow.holds Try.pinned (OpenSpec.upto fnExactBuildKnotsSpec)

/-- 'laws.FnExactGoodKnots', WHERE WHAT IT READS IS OF BULK AT MOST 1048576: true; the input reads as it did. -/
def fnExactGoodKnotsUptoRow : OpenClaim := { program := "ytlohhmoaomlieaa", sum := "4f88c51b0e12e5501d767a269224bb9730a491ba10f6e6f13daf081d0e71d4ed", func := "loop.example/g00537/laws.FnExactGoodKnots", spec := "fnExactGoodKnots", inPlace := ["slices.overlaps[int]"], unfollowed := true, recurses := true, apart := false, narrowed := true }
def FnExactGoodKnotsUptoSaid : Prop := fnExactGoodKnotsUptoRow.holds Try.pinned (OpenSpec.upto fnExactGoodKnotsSpec)

/-- 'laws.FnExactWordsOfKnots', WHERE WHAT IT READS IS OF BULK AT MOST 1048576: true; the input reads as it did. -/
def fnExactWordsOfKnotsUptoRow : OpenClaim := { program := "ytlohhmoaomlieaa", sum := "4f88c51b0e12e5501d767a269224bb9730a491ba10f6e6f13daf081d0e71d4ed", func := "loop.example/g00537/laws.FnExactWordsOfKnots", spec := "fnExactWordsOfKnots", inPlace := ["slices.overlaps[int]"], unfollowed := true, recurses := true, apart := false, narrowed := true }
def FnExactWordsOfKnotsUptoSaid : Prop := fnExactWordsOfKnotsUptoRow.holds Try.pinned (OpenSpec.upto fnExactWordsOfKnotsSpec)

/-- 'laws.FnExactPutWord', WHERE WHAT IT READS IS OF BULK AT MOST 1048576: true; the input reads as it did. -/
def fnExactPutWordUptoRow : OpenClaim := { program := "ytlohhmoaomlieaa", sum := "4f88c51b0e12e5501d767a269224bb9730a491ba10f6e6f13daf081d0e71d4ed", func := "loop.example/g00537/laws.FnExactPutWord", spec := "fnExactPutWord", inPlace := ["slices.overlaps[int]"], unfollowed := true, recurses := true, apart := false, narrowed := true }
def FnExactPutWordUptoSaid : Prop := fnExactPutWordUptoRow.holds Try.pinned (OpenSpec.upto fnExactPutWordSpec)

/-- 'laws.FnExactNearestOf', WHERE WHAT IT READS IS OF BULK AT MOST 1048576: true; the input reads as it did. -/
def fnExactNearestOfUptoRow : OpenClaim := { program := "ytlohhmoaomlieaa", sum := "4f88c51b0e12e5501d767a269224bb9730a491ba10f6e6f13daf081d0e71d4ed", func := "loop.example/g00537/laws.FnExactNearestOf", spec := "fnExactNearestOf", inPlace := ["slices.overlaps[int]"], unfollowed := true, recurses := true, apart := false, narrowed := true }
def FnExactNearestOfUptoSaid : Prop := fnExactNearestOfUptoRow.holds Try.pinned (OpenSpec.upto fnExactNearestOfSpec)

/-- 'laws.FnExactFindNear', WHERE WHAT IT READS IS OF BULK AT MOST 1048576: true; the input reads as it did. -/
def fnExactFindNearUptoRow : OpenClaim := { program := "ytlohhmoaomlieaa", sum := "4f88c51b0e12e5501d767a269224bb9730a491ba10f6e6f13daf081d0e71d4ed", func := "loop.example/g00537/laws.FnExactFindNear", spec := "fnExactFindNear", inPlace := ["slices.overlaps[int]"], unfollowed := true, recurses := true, apart := false, narrowed := true }
def FnExactFindNearUptoSaid : Prop := fnExactFindNearUptoRow.holds Try.pinned (OpenSpec.upto fnExactFindNearSpec)

/-- 'laws.FnFars', WHERE WHAT IT READS IS OF BULK AT MOST 1048576: true; the input reads as it did. -/
def fnFarsUptoRow : OpenClaim := { program := "ytlohhmoaomlieaa", sum := "4f88c51b0e12e5501d767a269224bb9730a491ba10f6e6f13daf081d0e71d4ed", func := "loop.example/g00537/laws.FnFars", spec := "fnFars", inPlace := ["slices.overlaps[int]"], unfollowed := true, recurses := true, apart := false, narrowed := true }
def FnFarsUptoSaid : Prop := fnFarsUptoRow.holds Try.pinned (OpenSpec.upto fnFarsSpec)

/-- 'laws.FnNear', WHERE WHAT IT READS IS OF BULK AT MOST 1048576: true; the input reads as it did. -/
def fnNearUptoRow : OpenClaim := { program := "ytlohhmoaomlieaa", sum := "4f88c51b0e12e5501d767a269224bb9730a491ba10f6e6f13daf081d0e71d4ed", func := "loop.example/g00537/laws.FnNear", spec := "fnNear", inPlace := ["slices.overlaps[int]"], unfollowed := true, recurses := true, apart := false, narrowed := true }
def FnNearUptoSaid : Prop := fnNearUptoRow.holds Try.pinned (OpenSpec.upto fnNearSpec)

end Rows
end Go.Proofs.Ytlohhmoaomlieaa
