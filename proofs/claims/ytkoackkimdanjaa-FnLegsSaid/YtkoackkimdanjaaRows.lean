/-
  No cell of these rows narrows 'for every input' (looked for: loops, veiled, ifaces, maps, wideKeys, modest, calm, conditions, laid).
  DERIVED. THE GIVEN ROWS OF THIS SEAT. 8 by the template 'for every input the law returns true; each argument reads behind the call as it read before'; 0 by the template 'total and deterministic' (their statements: YtkoackkimdanjaaTotals.lean).
  GIVEN WITH THE SEED: the statements are not yours to turn. If you find one false, say at which input.
  Laid BY PROGRAM, IN A SANDBOX (cutbox-rows.mjs): the forced cells as the released guide's own fill.sh prints them over the translation 58c8b7c0c74c7fcc… (all of the seat's roots in one cut). By AI agents, Wed Nov 11 2026. No macro, syntax, notation, axiom, sorry.
-/
import Derived.Test.YtkoackkimdanjaaChecked
import GoSem.Claim
import GoSem.ClaimJoined
import GoSem.ClaimMapViews
import Derived.JoinedTies
import Derived.KernelRfl
namespace Go.Proofs.Ytkoackkimdanjaa
/- THE CELL 'sum', in the pinned program and in every row, IS THE sha256 OF THE DUMP (.gsa) THAT YtkoackkimdanjaaProg.lean LOADS. Nothing in Lean hashes anything: it is a label: what it is worth is what the hold of that sum in a sandbox is worth. -/
noncomputable def Try.pinned : Pinned := { name := "ytkoackkimdanjaa", sum := "58c8b7c0c74c7fcc150a5874dae69513b18c6ba128436764771a63131e3b8609", checked := Try.checked }
namespace Rows
def none {H : Type} : Left H := { results := [], args := [] }

/-- 'laws.FnExactBuildLegs': WHATEVER THE INPUT: true; the input reads as it did. -/
def fnExactBuildLegsSpec : ChangeSpec := { name := "fnExactBuildLegs", fn := fun _ => fun
  | [d] => { results := [.lit (.bool true)], args := [d] }
  | _ => none }
def fnExactBuildLegsRow : OpenClaim := { program := "ytkoackkimdanjaa", sum := "58c8b7c0c74c7fcc150a5874dae69513b18c6ba128436764771a63131e3b8609", func := "loop.example/g00537/laws.FnExactBuildLegs", spec := "fnExactBuildLegs", unfollowed := true, recurses := true, apart := false }
def FnExactBuildLegsSaid : Prop := fnExactBuildLegsRow.holds Try.pinned (OpenSpec.ofChange fnExactBuildLegsSpec)

/-- ITS FALSE NEIGHBOUR: 'it returns false'. Refute it at one input. -/
def fnExactBuildLegsWrong : ChangeSpec := { name := "fnExactBuildLegs", fn := fun _ => fun
  | [d] => { results := [.lit (.bool false)], args := [d] }
  | _ => none }
def FnExactBuildLegsWrongFalsely : Prop := fnExactBuildLegsRow.holds Try.pinned (OpenSpec.ofChange fnExactBuildLegsWrong)

/-- 'laws.FnExactGoodLegs': WHATEVER THE INPUT: true; the input reads as it did. -/
def fnExactGoodLegsSpec : ChangeSpec := { name := "fnExactGoodLegs", fn := fun _ => fun
  | [d] => { results := [.lit (.bool true)], args := [d] }
  | _ => none }
def fnExactGoodLegsRow : OpenClaim := { program := "ytkoackkimdanjaa", sum := "58c8b7c0c74c7fcc150a5874dae69513b18c6ba128436764771a63131e3b8609", func := "loop.example/g00537/laws.FnExactGoodLegs", spec := "fnExactGoodLegs", unfollowed := true, recurses := true, apart := false }
def FnExactGoodLegsSaid : Prop := fnExactGoodLegsRow.holds Try.pinned (OpenSpec.ofChange fnExactGoodLegsSpec)

/-- ITS FALSE NEIGHBOUR: 'it returns false'. Refute it at one input. -/
def fnExactGoodLegsWrong : ChangeSpec := { name := "fnExactGoodLegs", fn := fun _ => fun
  | [d] => { results := [.lit (.bool false)], args := [d] }
  | _ => none }
def FnExactGoodLegsWrongFalsely : Prop := fnExactGoodLegsRow.holds Try.pinned (OpenSpec.ofChange fnExactGoodLegsWrong)

/-- 'laws.FnExactWalkLegs': WHATEVER THE INPUT: true; the input reads as it did. -/
def fnExactWalkLegsSpec : ChangeSpec := { name := "fnExactWalkLegs", fn := fun _ => fun
  | [d1, d2] => { results := [.lit (.bool true)], args := [d1, d2] }
  | _ => none }
def fnExactWalkLegsRow : OpenClaim := { program := "ytkoackkimdanjaa", sum := "58c8b7c0c74c7fcc150a5874dae69513b18c6ba128436764771a63131e3b8609", func := "loop.example/g00537/laws.FnExactWalkLegs", spec := "fnExactWalkLegs", unfollowed := true, recurses := true, apart := false }
def FnExactWalkLegsSaid : Prop := fnExactWalkLegsRow.holds Try.pinned (OpenSpec.ofChange fnExactWalkLegsSpec)

/-- ITS FALSE NEIGHBOUR: 'it returns false'. Refute it at one input. -/
def fnExactWalkLegsWrong : ChangeSpec := { name := "fnExactWalkLegs", fn := fun _ => fun
  | [d1, d2] => { results := [.lit (.bool false)], args := [d1, d2] }
  | _ => none }
def FnExactWalkLegsWrongFalsely : Prop := fnExactWalkLegsRow.holds Try.pinned (OpenSpec.ofChange fnExactWalkLegsWrong)

/-- 'laws.FnExactEntriesIn': WHATEVER THE INPUT: true; the input reads as it did. -/
def fnExactEntriesInSpec : ChangeSpec := { name := "fnExactEntriesIn", fn := fun _ => fun
  | [d] => { results := [.lit (.bool true)], args := [d] }
  | _ => none }
def fnExactEntriesInRow : OpenClaim := { program := "ytkoackkimdanjaa", sum := "58c8b7c0c74c7fcc150a5874dae69513b18c6ba128436764771a63131e3b8609", func := "loop.example/g00537/laws.FnExactEntriesIn", spec := "fnExactEntriesIn", unfollowed := true, recurses := true, apart := false }
def FnExactEntriesInSaid : Prop := fnExactEntriesInRow.holds Try.pinned (OpenSpec.ofChange fnExactEntriesInSpec)

/-- ITS FALSE NEIGHBOUR: 'it returns false'. Refute it at one input. -/
def fnExactEntriesInWrong : ChangeSpec := { name := "fnExactEntriesIn", fn := fun _ => fun
  | [d] => { results := [.lit (.bool false)], args := [d] }
  | _ => none }
def FnExactEntriesInWrongFalsely : Prop := fnExactEntriesInRow.holds Try.pinned (OpenSpec.ofChange fnExactEntriesInWrong)

/-- 'laws.FnExactPutEntry': WHATEVER THE INPUT: true; the input reads as it did. -/
def fnExactPutEntrySpec : ChangeSpec := { name := "fnExactPutEntry", fn := fun _ => fun
  | [d1, d2] => { results := [.lit (.bool true)], args := [d1, d2] }
  | _ => none }
def fnExactPutEntryRow : OpenClaim := { program := "ytkoackkimdanjaa", sum := "58c8b7c0c74c7fcc150a5874dae69513b18c6ba128436764771a63131e3b8609", func := "loop.example/g00537/laws.FnExactPutEntry", spec := "fnExactPutEntry", inPlace := ["internal/bytealg.abigen_runtime_cmpstring", "slices.overlaps[loop.example/g00537/impl.Entry]"], unfollowed := true, recurses := true, apart := false }
def FnExactPutEntrySaid : Prop := fnExactPutEntryRow.holds Try.pinned (OpenSpec.ofChange fnExactPutEntrySpec)

/-- ITS FALSE NEIGHBOUR: 'it returns false'. Refute it at one input. -/
def fnExactPutEntryWrong : ChangeSpec := { name := "fnExactPutEntry", fn := fun _ => fun
  | [d1, d2] => { results := [.lit (.bool false)], args := [d1, d2] }
  | _ => none }
def FnExactPutEntryWrongFalsely : Prop := fnExactPutEntryRow.holds Try.pinned (OpenSpec.ofChange fnExactPutEntryWrong)

/-- 'laws.FnLegs': WHATEVER THE INPUT: true; the input reads as it did. -/
def fnLegsSpec : ChangeSpec := { name := "fnLegs", fn := fun _ => fun
  | [d1, d2] => { results := [.lit (.bool true)], args := [d1, d2] }
  | _ => none }
def fnLegsRow : OpenClaim := { program := "ytkoackkimdanjaa", sum := "58c8b7c0c74c7fcc150a5874dae69513b18c6ba128436764771a63131e3b8609", func := "loop.example/g00537/laws.FnLegs", spec := "fnLegs", inPlace := ["internal/bytealg.abigen_runtime_cmpstring", "slices.overlaps[loop.example/g00537/impl.Entry]"], unfollowed := true, recurses := true, apart := false }
def FnLegsSaid : Prop := fnLegsRow.holds Try.pinned (OpenSpec.ofChange fnLegsSpec)

/-- ITS FALSE NEIGHBOUR: 'it returns false'. Refute it at one input. -/
def fnLegsWrong : ChangeSpec := { name := "fnLegs", fn := fun _ => fun
  | [d1, d2] => { results := [.lit (.bool false)], args := [d1, d2] }
  | _ => none }
def FnLegsWrongFalsely : Prop := fnLegsRow.holds Try.pinned (OpenSpec.ofChange fnLegsWrong)

/-- 'laws.FnExactSuggest': WHATEVER THE INPUT: true; the input reads as it did. -/
def fnExactSuggestSpec : ChangeSpec := { name := "fnExactSuggest", fn := fun _ => fun
  | [d1, d2, d3] => { results := [.lit (.bool true)], args := [d1, d2, d3] }
  | _ => none }
def fnExactSuggestRow : OpenClaim := { program := "ytkoackkimdanjaa", sum := "58c8b7c0c74c7fcc150a5874dae69513b18c6ba128436764771a63131e3b8609", func := "loop.example/g00537/laws.FnExactSuggest", spec := "fnExactSuggest", unfollowed := true, recurses := true, apart := false }
def FnExactSuggestSaid : Prop := fnExactSuggestRow.holds Try.pinned (OpenSpec.ofChange fnExactSuggestSpec)

/-- ITS FALSE NEIGHBOUR: 'it returns false'. Refute it at one input. -/
def fnExactSuggestWrong : ChangeSpec := { name := "fnExactSuggest", fn := fun _ => fun
  | [d1, d2, d3] => { results := [.lit (.bool false)], args := [d1, d2, d3] }
  | _ => none }
def FnExactSuggestWrongFalsely : Prop := fnExactSuggestRow.holds Try.pinned (OpenSpec.ofChange fnExactSuggestWrong)

/-- 'laws.FnSuggest': WHATEVER THE INPUT: true; the input reads as it did. -/
def fnSuggestSpec : ChangeSpec := { name := "fnSuggest", fn := fun _ => fun
  | [d1, d2] => { results := [.lit (.bool true)], args := [d1, d2] }
  | _ => none }
def fnSuggestRow : OpenClaim := { program := "ytkoackkimdanjaa", sum := "58c8b7c0c74c7fcc150a5874dae69513b18c6ba128436764771a63131e3b8609", func := "loop.example/g00537/laws.FnSuggest", spec := "fnSuggest", unfollowed := true, recurses := true, apart := false }
def FnSuggestSaid : Prop := fnSuggestRow.holds Try.pinned (OpenSpec.ofChange fnSuggestSpec)

/-- ITS FALSE NEIGHBOUR: 'it returns false'. Refute it at one input. -/
def fnSuggestWrong : ChangeSpec := { name := "fnSuggest", fn := fun _ => fun
  | [d1, d2] => { results := [.lit (.bool false)], args := [d1, d2] }
  | _ => none }
def FnSuggestWrongFalsely : Prop := fnSuggestRow.holds Try.pinned (OpenSpec.ofChange fnSuggestWrong)

/- THE SECOND FORM. 'bulk': how many values and letters a reading holds, each counted each time it is reached (what is shared counts as often as it is met; a slice's spare places count too). A statement '..UptoSaid' is the law's where the arguments, and the package variables that the reading takes, are together of bulk at most 1048576: NARROWER than '..Said'. Prove '..Said' where nothing that the law and all that it calls make is longer than what came in: it says more and counts as full. Else prove '..UptoSaid'. A law counts once. -/
mutual
def uptoBulk {H : Type} : DataW H → Nat
  | .lit (.string bytes) => bytes.length + 1
  | .lit _ => 1
  | .nil => 1
  | .ptr d => uptoBulk d + 1
  | .slice elems spare => uptoBulkAll elems + uptoBulkAll spare + 1
  | .agg parts => uptoBulkAll parts + 1
  | .iface _ d => uptoBulk d + 1
  | .map entries => uptoBulkEntries entries + 1
  | .held _ => 1
def uptoBulkAll {H : Type} : List (DataW H) → Nat
  | [] => 0
  | d :: r => uptoBulk d + uptoBulkAll r
def uptoBulkEntries {H : Type} : List (Lit × DataW H) → Nat
  | [] => 0
  | x :: r => uptoBulkEntry x + uptoBulkEntries r
def uptoBulkEntry {H : Type} : Lit × DataW H → Nat
  | (.string bytes, d) => bytes.length + uptoBulk d + 1
  | (_, d) => uptoBulk d + 1
 end
def uptoSmall : (H : Type) → List (DataW H) → Bool := fun _ ds => decide (uptoBulkAll ds ≤ 1048576)
def OpenSpec.upto (s : _root_.Go.ChangeSpec) : _root_.Go.OpenSpec := { _root_.Go.OpenSpec.ofChange s with cond := some uptoSmall }

/-- 'laws.FnExactBuildLegs', WHERE WHAT IT READS IS OF BULK AT MOST 1048576: true; the input reads as it did. -/
def fnExactBuildLegsUptoRow : OpenClaim := { program := "ytkoackkimdanjaa", sum := "58c8b7c0c74c7fcc150a5874dae69513b18c6ba128436764771a63131e3b8609", func := "loop.example/g00537/laws.FnExactBuildLegs", spec := "fnExactBuildLegs", unfollowed := true, recurses := true, apart := false, narrowed := true }
def FnExactBuildLegsUptoSaid : Prop := fnExactBuildLegsUptoRow.holds Try.pinned (OpenSpec.upto fnExactBuildLegsSpec)

/-- 'laws.FnExactGoodLegs', WHERE WHAT IT READS IS OF BULK AT MOST 1048576: true; the input reads as it did. -/
def fnExactGoodLegsUptoRow : OpenClaim := { program := "ytkoackkimdanjaa", sum := "58c8b7c0c74c7fcc150a5874dae69513b18c6ba128436764771a63131e3b8609", func := "loop.example/g00537/laws.FnExactGoodLegs", spec := "fnExactGoodLegs", unfollowed := true, recurses := true, apart := false, narrowed := true }
def FnExactGoodLegsUptoSaid : Prop := fnExactGoodLegsUptoRow.holds Try.pinned (OpenSpec.upto fnExactGoodLegsSpec)

/-- 'laws.FnExactWalkLegs', WHERE WHAT IT READS IS OF BULK AT MOST 1048576: true; the input reads as it did. -/
def fnExactWalkLegsUptoRow : OpenClaim := { program := "ytkoackkimdanjaa", sum := "58c8b7c0c74c7fcc150a5874dae69513b18c6ba128436764771a63131e3b8609", func := "loop.example/g00537/laws.FnExactWalkLegs", spec := "fnExactWalkLegs", unfollowed := true, recurses := true, apart := false, narrowed := true }
def FnExactWalkLegsUptoSaid : Prop := fnExactWalkLegsUptoRow.holds Try.pinned (OpenSpec.upto fnExactWalkLegsSpec)

/-- 'laws.FnExactEntriesIn', WHERE WHAT IT READS IS OF BULK AT MOST 1048576: true; the input reads as it did. -/
def fnExactEntriesInUptoRow : OpenClaim := { program := "ytkoackkimdanjaa", sum := "58c8b7c0c74c7fcc150a5874dae69513b18c6ba128436764771a63131e3b8609", func := "loop.example/g00537/laws.FnExactEntriesIn", spec := "fnExactEntriesIn", unfollowed := true, recurses := true, apart := false, narrowed := true }
def FnExactEntriesInUptoSaid : Prop := fnExactEntriesInUptoRow.holds Try.pinned (OpenSpec.upto fnExactEntriesInSpec)

/-- 'laws.FnExactPutEntry', WHERE WHAT IT READS IS OF BULK AT MOST 1048576: true; the input reads as it did. -/
def fnExactPutEntryUptoRow : OpenClaim := { program := "ytkoackkimdanjaa", sum := "58c8b7c0c74c7fcc150a5874dae69513b18c6ba128436764771a63131e3b8609", func := "loop.example/g00537/laws.FnExactPutEntry", spec := "fnExactPutEntry", inPlace := ["internal/bytealg.abigen_runtime_cmpstring", "slices.overlaps[loop.example/g00537/impl.Entry]"], unfollowed := true, recurses := true, apart := false, narrowed := true }
def FnExactPutEntryUptoSaid : Prop := fnExactPutEntryUptoRow.holds Try.pinned (OpenSpec.upto fnExactPutEntrySpec)

/-- 'laws.FnLegs', WHERE WHAT IT READS IS OF BULK AT MOST 1048576: true; the input reads as it did. -/
def fnLegsUptoRow : OpenClaim := { program := "ytkoackkimdanjaa", sum := "58c8b7c0c74c7fcc150a5874dae69513b18c6ba128436764771a63131e3b8609", func := "loop.example/g00537/laws.FnLegs", spec := "fnLegs", inPlace := ["internal/bytealg.abigen_runtime_cmpstring", "slices.overlaps[loop.example/g00537/impl.Entry]"], unfollowed := true, recurses := true, apart := false, narrowed := true }
def FnLegsUptoSaid : Prop := fnLegsUptoRow.holds Try.pinned (OpenSpec.upto fnLegsSpec)

/-- 'laws.FnExactSuggest', WHERE WHAT IT READS IS OF BULK AT MOST 1048576: true; the input reads as it did. -/
def fnExactSuggestUptoRow : OpenClaim := { program := "ytkoackkimdanjaa", sum := "58c8b7c0c74c7fcc150a5874dae69513b18c6ba128436764771a63131e3b8609", func := "loop.example/g00537/laws.FnExactSuggest", spec := "fnExactSuggest", unfollowed := true, recurses := true, apart := false, narrowed := true }
def FnExactSuggestUptoSaid : Prop := fnExactSuggestUptoRow.holds Try.pinned (OpenSpec.upto fnExactSuggestSpec)

/-- 'laws.FnSuggest', WHERE WHAT IT READS IS OF BULK AT MOST 1048576: true; the input reads as it did. -/
def fnSuggestUptoRow : OpenClaim := { program := "ytkoackkimdanjaa", sum := "58c8b7c0c74c7fcc150a5874dae69513b18c6ba128436764771a63131e3b8609", func := "loop.example/g00537/laws.FnSuggest", spec := "fnSuggest", unfollowed := true, recurses := true, apart := false, narrowed := true }
def FnSuggestUptoSaid : Prop := fnSuggestUptoRow.holds Try.pinned (OpenSpec.upto fnSuggestSpec)

end Rows
end Go.Proofs.Ytkoackkimdanjaa
