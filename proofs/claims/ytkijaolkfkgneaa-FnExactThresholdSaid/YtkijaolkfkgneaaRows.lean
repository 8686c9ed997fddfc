/-
  No cell of these rows narrows 'for every input' (looked for: loops, veiled, ifaces, maps, wideKeys, modest, calm, conditions, laid).
  DERIVED. THE GIVEN ROWS OF THIS SEAT. 6 by the template 'for every input the law returns true; each argument reads behind the call as it read before'; 0 by the template 'total and deterministic' (their statements: YtkijaolkfkgneaaTotals.lean).
  GIVEN WITH THE SEED: the statements are not yours to turn. If you find one false, say at which input.
  Laid BY PROGRAM, IN A SANDBOX (cutbox-rows.mjs): the forced cells as the released guide's own fill.sh prints them over the translation 4a7c6856a3130bc2… (all of the seat's roots in one cut). By AI agents, Wed Nov 11 2026. No macro, syntax, notation, axiom, sorry.
-/
import Derived.Test.YtkijaolkfkgneaaChecked
import GoSem.Claim
import GoSem.ClaimJoined
import GoSem.ClaimMapViews
import Derived.JoinedTies
import Derived.KernelRfl
namespace Go.Proofs.Ytkijaolkfkgneaa
/- THE CELL 'sum', in the pinned program and in every row, IS THE sha256 OF THE DUMP (.gsa) THAT YtkijaolkfkgneaaProg.lean LOADS. Nothing in Lean hashes anything: it is a label: what it is worth is what the hold of that sum in a sandbox is worth. -/
noncomputable def Try.pinned : Pinned := { name := "ytkijaolkfkgneaa", sum := "4a7c6856a3130bc215081688f5a0853d66dc015cdbc69acb2e3d9556d00acb9c", checked := Try.checked }
namespace Rows
def none {H : Type} : Left H := { results := [], args := [] }

/-- 'laws.FnExactDocsFor': WHATEVER THE INPUT: true; the input reads as it did. -/
def fnExactDocsForSpec : ChangeSpec := { name := "fnExactDocsFor", fn := fun _ => fun
  | [d1, d2] => { results := [.lit (.bool true)], args := [d1, d2] }
  | _ => none }
def fnExactDocsForRow : OpenClaim := { program := "ytkijaolkfkgneaa", sum := "4a7c6856a3130bc215081688f5a0853d66dc015cdbc69acb2e3d9556d00acb9c", func := "loop.example/g00537/laws.FnExactDocsFor", spec := "fnExactDocsFor", unfollowed := true, recurses := true, apart := false }
def FnExactDocsForSaid : Prop := fnExactDocsForRow.holds Try.pinned (OpenSpec.ofChange fnExactDocsForSpec)

/-- ITS FALSE NEIGHBOUR: 'it returns false'. Refute it at one input. -/
def fnExactDocsForWrong : ChangeSpec := { name := "fnExactDocsFor", fn := fun _ => fun
  | [d1, d2] => { results := [.lit (.bool false)], args := [d1, d2] }
  | _ => none }
def FnExactDocsForWrongFalsely : Prop := fnExactDocsForRow.holds Try.pinned (OpenSpec.ofChange fnExactDocsForWrong)

/-- 'laws.FnExactPrimesOf': WHATEVER THE INPUT: true; the input reads as it did. -/
def fnExactPrimesOfSpec : ChangeSpec := { name := "fnExactPrimesOf", fn := fun _ => fun
  | [d] => { results := [.lit (.bool true)], args := [d] }
  | _ => none }
def fnExactPrimesOfRow : OpenClaim := { program := "ytkijaolkfkgneaa", sum := "4a7c6856a3130bc215081688f5a0853d66dc015cdbc69acb2e3d9556d00acb9c", func := "loop.example/g00537/laws.FnExactPrimesOf", spec := "fnExactPrimesOf", unfollowed := true, recurses := true, apart := false }
def FnExactPrimesOfSaid : Prop := fnExactPrimesOfRow.holds Try.pinned (OpenSpec.ofChange fnExactPrimesOfSpec)

/-- ITS FALSE NEIGHBOUR: 'it returns false'. Refute it at one input. -/
def fnExactPrimesOfWrong : ChangeSpec := { name := "fnExactPrimesOf", fn := fun _ => fun
  | [d] => { results := [.lit (.bool false)], args := [d] }
  | _ => none }
def FnExactPrimesOfWrongFalsely : Prop := fnExactPrimesOfRow.holds Try.pinned (OpenSpec.ofChange fnExactPrimesOfWrong)

/-- 'laws.FnExactBestFew': WHATEVER THE INPUT: true; the input reads as it did. -/
def fnExactBestFewSpec : ChangeSpec := { name := "fnExactBestFew", fn := fun _ => fun
  | [d1, d2] => { results := [.lit (.bool true)], args := [d1, d2] }
  | _ => none }
def fnExactBestFewRow : OpenClaim := { program := "ytkijaolkfkgneaa", sum := "4a7c6856a3130bc215081688f5a0853d66dc015cdbc69acb2e3d9556d00acb9c", func := "loop.example/g00537/laws.FnExactBestFew", spec := "fnExactBestFew", unfollowed := true, recurses := true, apart := false }
def FnExactBestFewSaid : Prop := fnExactBestFewRow.holds Try.pinned (OpenSpec.ofChange fnExactBestFewSpec)

/-- ITS FALSE NEIGHBOUR: 'it returns false'. Refute it at one input. -/
def fnExactBestFewWrong : ChangeSpec := { name := "fnExactBestFew", fn := fun _ => fun
  | [d1, d2] => { results := [.lit (.bool false)], args := [d1, d2] }
  | _ => none }
def FnExactBestFewWrongFalsely : Prop := fnExactBestFewRow.holds Try.pinned (OpenSpec.ofChange fnExactBestFewWrong)

/-- 'laws.FnExactThreshold': WHATEVER THE INPUT: true; the input reads as it did. -/
def fnExactThresholdSpec : ChangeSpec := { name := "fnExactThreshold", fn := fun _ => fun
  | [d1, d2] => { results := [.lit (.bool true)], args := [d1, d2] }
  | _ => none }
def fnExactThresholdRow : OpenClaim := { program := "ytkijaolkfkgneaa", sum := "4a7c6856a3130bc215081688f5a0853d66dc015cdbc69acb2e3d9556d00acb9c", func := "loop.example/g00537/laws.FnExactThreshold", spec := "fnExactThreshold", unfollowed := true, recurses := true, apart := false }
def FnExactThresholdSaid : Prop := fnExactThresholdRow.holds Try.pinned (OpenSpec.ofChange fnExactThresholdSpec)

/-- ITS FALSE NEIGHBOUR: 'it returns false'. Refute it at one input. -/
def fnExactThresholdWrong : ChangeSpec := { name := "fnExactThreshold", fn := fun _ => fun
  | [d1, d2] => { results := [.lit (.bool false)], args := [d1, d2] }
  | _ => none }
def FnExactThresholdWrongFalsely : Prop := fnExactThresholdRow.holds Try.pinned (OpenSpec.ofChange fnExactThresholdWrong)

/-- 'laws.FnExactSuggest': WHATEVER THE INPUT: true; the input reads as it did. -/
def fnExactSuggestSpec : ChangeSpec := { name := "fnExactSuggest", fn := fun _ => fun
  | [d1, d2, d3] => { results := [.lit (.bool true)], args := [d1, d2, d3] }
  | _ => none }
def fnExactSuggestRow : OpenClaim := { program := "ytkijaolkfkgneaa", sum := "4a7c6856a3130bc215081688f5a0853d66dc015cdbc69acb2e3d9556d00acb9c", func := "loop.example/g00537/laws.FnExactSuggest", spec := "fnExactSuggest", unfollowed := true, recurses := true, apart := false }
def FnExactSuggestSaid : Prop := fnExactSuggestRow.holds Try.pinned (OpenSpec.ofChange fnExactSuggestSpec)

/-- ITS FALSE NEIGHBOUR: 'it returns false'. Refute it at one input. -/
def fnExactSuggestWrong : ChangeSpec := { name := "fnExactSuggest", fn := fun _ => fun
  | [d1, d2, d3] => { results := [.lit (.bool false)], args := [d1, d2, d3] }
  | _ => none }
def FnExactSuggestWrongFalsely : Prop := fnExactSuggestRow.holds Try.pinned (OpenSpec.ofChange fnExactSuggestWrong)

/-- 'laws.FnSuggest': WHATEVER THE INPUT: true; the input reads as it did. -/
def fnSuggestSpec : ChangeSpec := { name := "fnSuggest", fn := fun _ => fun
  | [d1, d2] => { results := [.lit (.bool true)], args := [d1, d2] }
  | _ => none }
def fnSuggestRow : OpenClaim := { program := "ytkijaolkfkgneaa", sum := "4a7c6856a3130bc215081688f5a0853d66dc015cdbc69acb2e3d9556d00acb9c", func := "loop.example/g00537/laws.FnSuggest", spec := "fnSuggest", unfollowed := true, recurses := true, apart := false }
def FnSuggestSaid : Prop := fnSuggestRow.holds Try.pinned (OpenSpec.ofChange fnSuggestSpec)

/-- ITS FALSE NEIGHBOUR: 'it returns false'. Refute it at one input. -/
def fnSuggestWrong : ChangeSpec := { name := "fnSuggest", fn := fun _ => fun
  | [d1, d2] => { results := [.lit (.bool false)], args := [d1, d2] }
  | _ => none }
def FnSuggestWrongFalsely : Prop := fnSuggestRow.holds Try.pinned (OpenSpec.ofChange fnSuggestWrong)

/- THE SECOND FORM. 'bulk': how many values and letters a reading holds, each counted each time it is reached (what is shared counts as often as it is met; a slice's spare places count too). A statement '..UptoSaid' is the law's where the arguments, and the package variables that the reading takes, are together of bulk at most 1048576: NARROWER than '..Said'. Prove '..Said' where nothing that the law and all that it calls make is longer than what came in: it says more and counts as full. Else prove '..UptoSaid'. A law counts once. -/
mutual
def uptoBulk {H : Type} : DataW H → Nat
  | .lit (.string bytes) => bytes.length + 1
  | .lit _ => 1
  | .nil => 1
  | .ptr d => uptoBulk d + 1
  | .slice elems spare => uptoBulkAll elems + uptoBulkAll spare + 1
  | .agg parts => uptoBulkAll parts + 1
  | .iface _ d => uptoBulk d + 1
  | .map entries => uptoBulkEntries entries + 1
  | .held _ => 1
def uptoBulkAll {H : Type} : List (DataW H) → Nat
  | [] => 0
  | d :: r => uptoBulk d + uptoBulkAll r
def uptoBulkEntries {H : Type} : List (Lit × DataW H) → Nat
  | [] => 0
  | x :: r => uptoBulkEntry x + uptoBulkEntries r
def uptoBulkEntry {H : Type} : Lit × DataW H → Nat
  | (.string bytes, d) => bytes.length + uptoBulk d + 1
  | (_, d) => uptoBulk d + 1
 end
def uptoSmall : (H : Type) → List (DataW H) → Bool := fun _ ds => decide (uptoBulkAll ds ≤ 1048576)
def OpenSpec.upto (s : _root_.Go.ChangeSpec) : _root_.Go.OpenSpec := { _root_.Go.OpenSpec.ofChange s with cond := some uptoSmall }

/-- 'laws.FnExactDocsFor', WHERE WHAT IT READS IS OF BULK AT MOST 1048576: true; the input reads as it did. -/
def fnExactDocsForUptoRow : OpenClaim := { program := "ytkijaolkfkgneaa", sum := "4a7c6856a3130bc215081688f5a0853d66dc015cdbc69acb2e3d9556d00acb9c", func := "loop.example/g00537/laws.FnExactDocsFor", spec := "fnExactDocsFor", unfollowed := true, recurses := true, apart := false, narrowed := true }
def FnExactDocsForUptoSaid : Prop := fnExactDocsForUptoRow.holds Try.pinned (OpenSpec.upto fnExactDocsForSpec)

/-- 'laws.FnExactPrimesOf', WHERE WHAT IT READS IS OF BULK AT MOST 1048576: true; the input reads as it did. -/
def fnExactPrimesOfUptoRow : OpenClaim := { program := "ytkijaolkfkgneaa", sum := "4a7c6856a3130bc215081688f5a0853d66dc015cdbc69acb2e3d9556d00acb9c", func := "loop.example/g00537/laws.FnExactPrimesOf", spec := "fnExactPrimesOf", unfollowed := true, recurses := true, apart := false, narrowed := true }
def FnExactPrimesOfUptoSaid : Prop := fnExactPrimesOfUptoRow.holds Try.pinned (OpenSpec.upto fnExactPrimesOfSpec)

/-- 'laws.FnExactBestFew', WHERE WHAT IT READS IS OF BULK AT MOST 1048576: true; the input reads as it did. -/
def fnExactBestFewUptoRow : OpenClaim := { program := "ytkijaolkfkgneaa", sum := "4a7c6856a3130bc215081688f5a0853d66dc015cdbc69acb2e3d9556d00acb9c", func := "loop.example/g00537/laws.FnExactBestFew", spec := "fnExactBestFew", unfollowed := true, recurses := true, apart := false, narrowed := true }
def FnExactBestFewUptoSaid : Prop := fnExactBestFewUptoRow.holds Try.pinned (OpenSpec.upto fnExactBestFewSpec)

/-- 'laws.FnExactThreshold', WHERE WHAT IT READS IS OF BULK AT MOST 1048576: true; the input reads as it did. -/
def fnExactThresholdUptoRow : OpenClaim := { program := "ytkijaolkfkgneaa", sum := "4a7c6856a3130bc215081688f5a0853d66dc015cdbc69acb2e3d9556d00acb9c", func := "loop.example/g00537/laws.FnExactThreshold", spec := "fnExactThreshold", unfollowed := true, recurses := true, apart := false, narrowed := true }
def FnExactThresholdUptoSaid : Prop := fnExactThresholdUptoRow.holds Try.pinned (OpenSpec.upto fnExactThresholdSpec)

/-- 'laws.FnExactSuggest', WHERE WHAT IT READS IS OF BULK AT MOST 1048576: true; the input reads as it did. -/
def fnExactSuggestUptoRow : OpenClaim := { program := "ytkijaolkfkgneaa", sum := "4a7c6856a3130bc215081688f5a0853d66dc015cdbc69acb2e3d9556d00acb9c", func := "loop.example/g00537/laws.FnExactSuggest", spec := "fnExactSuggest", unfollowed := true, recurses := true, apart := false, narrowed := true }
def FnExactSuggestUptoSaid : Prop := fnExactSuggestUptoRow.holds Try.pinned (OpenSpec.upto fnExactSuggestSpec)

/-- 'laws.FnSuggest', WHERE WHAT IT READS IS OF BULK AT MOST 1048576: true; the input reads as it did. -/
def fnSuggestUptoRow : OpenClaim := { program := "ytkijaolkfkgneaa", sum := "4a7c6856a3130bc215081688f5a0853d66dc015cdbc69acb2e3d9556d00acb9c", func := "loop.example/g00537/laws.FnSuggest", spec := "fnSuggest", unfollowed := true, recurses := true, apart := false, narrowed := true }
def FnSuggestUptoSaid : Prop := fnSuggestUptoRow.holds Try.pinned (OpenSpec.upto fnSuggestSpec)

end Rows
end Go.Proofs.Ytkijaolkfkgneaa
