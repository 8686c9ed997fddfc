/-
  No cell of these rows narrows 'for every input' (looked for: loops, veiled, ifaces, maps, wideKeys, modest, calm, conditions, laid).
  DERIVED. THE GIVEN ROWS OF THIS SEAT. 6 by the template 'for every input the law returns true; each argument reads behind the call as it read before'; 0 by the template 'total and deterministic' (their statements: YtgnpbbdejagbnaaTotals.lean).
  GIVEN WITH THE SEED: the statements are not yours to turn. If you find one false, say at which input.
  Laid BY PROGRAM, IN A SANDBOX (cutbox-rows.mjs): the forced cells as the released guide's own fill.sh prints them over the translation f701bb6b85af739b… (all of the seat's roots in one cut). By AI agents, Wed Nov 11 2026. No macro, syntax, notation, axiom, sorry.
-/
import Derived.Test.YtgnpbbdejagbnaaChecked
import GoSem.Claim
import GoSem.ClaimJoined
import GoSem.ClaimMapViews
import Derived.JoinedTies
import Derived.KernelRfl
namespace Go.Proofs.Ytgnpbbdejagbnaa
/- THE CELL 'sum', in the pinned program and in every row, IS THE sha256 OF THE DUMP (.gsa) THAT YtgnpbbdejagbnaaProg.lean LOADS. Nothing in Lean hashes anything: it is a label: what it is worth is what the hold of that sum in a sandbox is worth. -/
noncomputable def Try.pinned : Pinned := { name := "ytgnpbbdejagbnaa", sum := "f701bb6b85af739b24c13c1a0aa7d62039202cc4b8ee881e3907359474e46077", checked := Try.checked }
namespace Rows
def none {H : Type} : Left H := { results := [], args := [] }

/-- 'laws.FnExactListDigest': WHATEVER THE INPUT: true; the input reads as it did. -/
def fnExactListDigestSpec : ChangeSpec := { name := "fnExactListDigest", fn := fun _ => fun
  | [d1, d2] => { results := [.lit (.bool true)], args := [d1, d2] }
  | _ => none }
def fnExactListDigestRow : OpenClaim := { program := "ytgnpbbdejagbnaa", sum := "f701bb6b85af739b24c13c1a0aa7d62039202cc4b8ee881e3907359474e46077", func := "loop.example/g00537/laws.FnExactListDigest", spec := "fnExactListDigest", apart := false }
def FnExactListDigestSaid : Prop := fnExactListDigestRow.holds Try.pinned (OpenSpec.ofChange fnExactListDigestSpec)

/-- ITS FALSE NEIGHBOUR: 'it returns false'. Refute it at one input. -/
def fnExactListDigestWrong : ChangeSpec := { name := "fnExactListDigest", fn := fun _ => fun
  | [d1, d2] => { results := [.lit (.bool false)], args := [d1, d2] }
  | _ => none }
def FnExactListDigestWrongFalsely : Prop := fnExactListDigestRow.holds Try.pinned (OpenSpec.ofChange fnExactListDigestWrong)

/-- 'laws.FnExactDigitsOf': WHATEVER THE INPUT: true; the input reads as it did. -/
def fnExactDigitsOfSpec : ChangeSpec := { name := "fnExactDigitsOf", fn := fun _ => fun
  | [d] => { results := [.lit (.bool true)], args := [d] }
  | _ => none }
def fnExactDigitsOfRow : OpenClaim := { program := "ytgnpbbdejagbnaa", sum := "f701bb6b85af739b24c13c1a0aa7d62039202cc4b8ee881e3907359474e46077", func := "loop.example/g00537/laws.FnExactDigitsOf", spec := "fnExactDigitsOf", apart := false }
def FnExactDigitsOfSaid : Prop := fnExactDigitsOfRow.holds Try.pinned (OpenSpec.ofChange fnExactDigitsOfSpec)

/-- ITS FALSE NEIGHBOUR: 'it returns false'. Refute it at one input. -/
def fnExactDigitsOfWrong : ChangeSpec := { name := "fnExactDigitsOf", fn := fun _ => fun
  | [d] => { results := [.lit (.bool false)], args := [d] }
  | _ => none }
def FnExactDigitsOfWrongFalsely : Prop := fnExactDigitsOfRow.holds Try.pinned (OpenSpec.ofChange fnExactDigitsOfWrong)

/-- 'laws.FnExactKeyParts': WHATEVER THE INPUT: true; the input reads as it did. -/
def fnExactKeyPartsSpec : ChangeSpec := { name := "fnExactKeyParts", fn := fun _ => fun
  | [d] => { results := [.lit (.bool true)], args := [d] }
  | _ => none }
def fnExactKeyPartsRow : OpenClaim := { program := "ytgnpbbdejagbnaa", sum := "f701bb6b85af739b24c13c1a0aa7d62039202cc4b8ee881e3907359474e46077", func := "loop.example/g00537/laws.FnExactKeyParts", spec := "fnExactKeyParts", apart := false }
def FnExactKeyPartsSaid : Prop := fnExactKeyPartsRow.holds Try.pinned (OpenSpec.ofChange fnExactKeyPartsSpec)

/-- ITS FALSE NEIGHBOUR: 'it returns false'. Refute it at one input. -/
def fnExactKeyPartsWrong : ChangeSpec := { name := "fnExactKeyParts", fn := fun _ => fun
  | [d] => { results := [.lit (.bool false)], args := [d] }
  | _ => none }
def FnExactKeyPartsWrongFalsely : Prop := fnExactKeyPartsRow.holds Try.pinned (OpenSpec.ofChange fnExactKeyPartsWrong)

/-- 'laws.FnExactTopFrom': WHATEVER THE INPUT: true; the input reads as it did. -/
def fnExactTopFromSpec : ChangeSpec := { name := "fnExactTopFrom", fn := fun _ => fun
  | [d1, d2, d3] => { results := [.lit (.bool true)], args := [d1, d2, d3] }
  | _ => none }
def fnExactTopFromRow : OpenClaim := { program := "ytgnpbbdejagbnaa", sum := "f701bb6b85af739b24c13c1a0aa7d62039202cc4b8ee881e3907359474e46077", func := "loop.example/g00537/laws.FnExactTopFrom", spec := "fnExactTopFrom", unfollowed := true, recurses := true, apart := false }
def FnExactTopFromSaid : Prop := fnExactTopFromRow.holds Try.pinned (OpenSpec.ofChange fnExactTopFromSpec)

/-- ITS FALSE NEIGHBOUR: 'it returns false'. Refute it at one input. -/
def fnExactTopFromWrong : ChangeSpec := { name := "fnExactTopFrom", fn := fun _ => fun
  | [d1, d2, d3] => { results := [.lit (.bool false)], args := [d1, d2, d3] }
  | _ => none }
def FnExactTopFromWrongFalsely : Prop := fnExactTopFromRow.holds Try.pinned (OpenSpec.ofChange fnExactTopFromWrong)

/-- 'laws.FnExactGoodEntries': WHATEVER THE INPUT: true; the input reads as it did. -/
def fnExactGoodEntriesSpec : ChangeSpec := { name := "fnExactGoodEntries", fn := fun _ => fun
  | [d] => { results := [.lit (.bool true)], args := [d] }
  | _ => none }
def fnExactGoodEntriesRow : OpenClaim := { program := "ytgnpbbdejagbnaa", sum := "f701bb6b85af739b24c13c1a0aa7d62039202cc4b8ee881e3907359474e46077", func := "loop.example/g00537/laws.FnExactGoodEntries", spec := "fnExactGoodEntries", apart := false }
def FnExactGoodEntriesSaid : Prop := fnExactGoodEntriesRow.holds Try.pinned (OpenSpec.ofChange fnExactGoodEntriesSpec)

/-- ITS FALSE NEIGHBOUR: 'it returns false'. Refute it at one input. -/
def fnExactGoodEntriesWrong : ChangeSpec := { name := "fnExactGoodEntries", fn := fun _ => fun
  | [d] => { results := [.lit (.bool false)], args := [d] }
  | _ => none }
def FnExactGoodEntriesWrongFalsely : Prop := fnExactGoodEntriesRow.holds Try.pinned (OpenSpec.ofChange fnExactGoodEntriesWrong)

/-- 'laws.FnExactGoodBlock': WHATEVER THE INPUT: true; the input reads as it did. -/
def fnExactGoodBlockSpec : ChangeSpec := { name := "fnExactGoodBlock", fn := fun _ => fun
  | [d] => { results := [.lit (.bool true)], args := [d] }
  | _ => none }
def fnExactGoodBlockRow : OpenClaim := { program := "ytgnpbbdejagbnaa", sum := "f701bb6b85af739b24c13c1a0aa7d62039202cc4b8ee881e3907359474e46077", func := "loop.example/g00537/laws.FnExactGoodBlock", spec := "fnExactGoodBlock", unfollowed := true, recurses := true, apart := false }
def FnExactGoodBlockSaid : Prop := fnExactGoodBlockRow.holds Try.pinned (OpenSpec.ofChange fnExactGoodBlockSpec)

/-- ITS FALSE NEIGHBOUR: 'it returns false'. Refute it at one input. -/
def fnExactGoodBlockWrong : ChangeSpec := { name := "fnExactGoodBlock", fn := fun _ => fun
  | [d] => { results := [.lit (.bool false)], args := [d] }
  | _ => none }
def FnExactGoodBlockWrongFalsely : Prop := fnExactGoodBlockRow.holds Try.pinned (OpenSpec.ofChange fnExactGoodBlockWrong)

/- THE SECOND FORM. 'bulk': how many values and letters a reading holds, each counted each time it is reached (what is shared counts as often as it is met; a slice's spare places count too). A statement '..UptoSaid' is the law's where the arguments, and the package variables that the reading takes, are together of bulk at most 1048576: NARROWER than '..Said'. Prove '..Said' where nothing that the law and all that it calls make is longer than what came in: it says more and counts as full. Else prove '..UptoSaid'. A law counts once. -/
mutual
def uptoBulk {H : Type} : DataW H → Nat
  | .lit (.string bytes) => bytes.length + 1
  | .lit _ => 1
  | .nil => 1
  | .ptr d => uptoBulk d + 1
  | .slice elems spare => uptoBulkAll elems + uptoBulkAll spare + 1
  | .agg parts => uptoBulkAll parts + 1
  | .iface _ d => uptoBulk d + 1
  | .map entries => uptoBulkEntries entries + 1
  | .held _ => 1
def uptoBulkAll {H : Type} : List (DataW H) → Nat
  | [] => 0
  | d :: r => uptoBulk d + uptoBulkAll r
def uptoBulkEntries {H : Type} : List (Lit × DataW H) → Nat
  | [] => 0
  | x :: r => uptoBulkEntry x + uptoBulkEntries r
def uptoBulkEntry {H : Type} : Lit × DataW H → Nat
  | (.string bytes, d) => bytes.length + uptoBulk d + 1
  | (_, d) => uptoBulk d + 1
 end
def uptoSmall : (H : Type) → List (DataW H) → Bool := fun _ ds => decide (uptoBulkAll ds ≤ 1048576)
def OpenSpec.upto (s : _root_.Go.ChangeSpec) : _root_.Go.OpenSpec := { _root_.Go.OpenSpec.ofChange s with cond := some uptoSmall }

/-- 'laws.FnExactListDigest', WHERE WHAT IT READS IS OF BULK AT MOST 1048576: true; the input reads as it did. -/
def fnExactListDigestUptoRow : OpenClaim := { program := "ytgnpbbdejagbnaa", sum := "f701bb6b85af739b24c13c1a0aa7d62039202cc4b8ee881e3907359474e46077", func := "loop.example/g00537/laws.FnExactListDigest", spec := "fnExactListDigest", apart := false, narrowed := true }
def FnExactListDigestUptoSaid : Prop := fnExactListDigestUptoRow.holds Try.pinned (OpenSpec.upto fnExactListDigestSpec)

/-- 'laws.FnExactDigitsOf', WHERE WHAT IT READS IS OF BULK AT MOST 1048576: true; the input reads as it did. -/
def fnExactDigitsOfUptoRow : OpenClaim := { program := "ytgnpbbdejagbnaa", sum := "f701bb6b85af739b24c13c1a0aa7d62039202cc4b8ee881e3907359474e46077", func := "loop.example/g00537/laws.FnExactDigitsOf", spec := "fnExactDigitsOf", apart := false, narrowed := true }
def FnExactDigitsOfUptoSaid : Prop := fnExactDigitsOfUptoRow.holds Try.pinned (OpenSpec.upto fnExactDigitsOfSpec)

/-- 'laws.FnExactKeyParts', WHERE WHAT IT READS IS OF BULK AT MOST 1048576: true; the input reads as it did. -/
def fnExactKeyPartsUptoRow : OpenClaim := { program := "ytgnpbbdejagbnaa", sum := "f701bb6b85af739b24c13c1a0aa7d62039202cc4b8ee881e3907359474e46077", func := "loop.example/g00537/laws.FnExactKeyParts", spec := "fnExactKeyParts", apart := false, narrowed := true }
def FnExactKeyPartsUptoSaid : Prop := fnExactKeyPartsUptoRow.holds Try.pinned (OpenSpec.upto fnExactKeyPartsSpec)

/-- 'laws.FnExactTopFrom', WHERE WHAT IT READS IS OF BULK AT MOST 1048576: true; the input reads as it did. -/
def fnExactTopFromUptoRow : OpenClaim := { program := "ytgnpbbdejagbnaa", sum := "f701bb6b85af739b24c13c1a0aa7d62039202cc4b8ee881e3907359474e46077", func := "loop.example/g00537/laws.FnExactTopFrom", spec := "fnExactTopFrom", unfollowed := true, recurses := true, apart := false, narrowed := true }
def FnExactTopFromUptoSaid : Prop := fnExactTopFromUptoRow.holds Try.pinned (OpenSpec.upto fnExactTopFromSpec)

/-- 'laws.FnExactGoodEntries', WHERE WHAT IT READS IS OF BULK AT MOST 1048576: true; the input reads as it did. -/
def fnExactGoodEntriesUptoRow : OpenClaim := { program := "ytgnpbbdejagbnaa", sum := "f701bb6b85af739b24c13c1a0aa7d62039202cc4b8ee881e3907359474e46077", func := "loop.example/g00537/laws.FnExactGoodEntries", spec := "fnExactGoodEntries", apart := false, narrowed := true }
def FnExactGoodEntriesUptoSaid : Prop := fnExactGoodEntriesUptoRow.holds Try.pinned (OpenSpec.upto fnExactGoodEntriesSpec)

/-- 'laws.FnExactGoodBlock', WHERE WHAT IT READS IS OF BULK AT MOST 1048576: true; the input reads as it did. -/
def fnExactGoodBlockUptoRow : OpenClaim := { program := "ytgnpbbdejagbnaa", sum := "f701bb6b85af739b24c13c1a0aa7d62039202cc4b8ee881e3907359474e46077", func := "loop.example/g00537/laws.FnExactGoodBlock", spec := "fnExactGoodBlock", unfollowed := true, recurses := true, apart := false, narrowed := true }
def FnExactGoodBlockUptoSaid : Prop := fnExactGoodBlockUptoRow.holds Try.pinned (OpenSpec.upto fnExactGoodBlockSpec)

end Rows
end Go.Proofs.Ytgnpbbdejagbnaa
