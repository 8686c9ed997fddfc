/-
  No cell of these rows narrows 'for every input' (looked for: loops, veiled, ifaces, maps, wideKeys, modest, calm, conditions, laid).
  DERIVED. THE GIVEN ROWS OF THIS SEAT. 6 by the template 'for every input the law returns true; each argument reads behind the call as it read before'; 0 by the template 'total and deterministic' (their statements: YtbdfeiohpbbgoaaTotals.lean).
  GIVEN WITH THE SEED: the statements are not yours to turn. If you find one false, say at which input.
  Laid BY PROGRAM, IN A SANDBOX (cutbox-rows.mjs): the forced cells as the released guide's own fill.sh prints them over the translation 575b317c07e7b0f4… (all of the seat's roots in one cut). By AI agents, Wed Nov 11 2026. No macro, syntax, notation, axiom, sorry.
-/
import Derived.Test.YtbdfeiohpbbgoaaChecked
import GoSem.Claim
import GoSem.ClaimJoined
import GoSem.ClaimMapViews
import Derived.JoinedTies
import Derived.KernelRfl
namespace Go.Proofs.Ytbdfeiohpbbgoaa
/- THE CELL 'sum', in the pinned program and in every row, IS THE sha256 OF THE DUMP (.gsa) THAT YtbdfeiohpbbgoaaProg.lean LOADS. Nothing in Lean hashes anything: it is a label: what it is worth is what the hold of that sum in a sandbox is worth. -/
noncomputable def Try.pinned : Pinned := { name := "ytbdfeiohpbbgoaa", sum := "575b317c07e7b0f4f6f127f95c91e51f9d369d00d02c2604a213048ddda7d6fe", checked := Try.checked }
namespace Rows
def none {H : Type} : Left H := { results := [], args := [] }

/-- 'laws.FnExactDigestOf': WHATEVER THE INPUT: true; the input reads as it did. -/
def fnExactDigestOfSpec : ChangeSpec := { name := "fnExactDigestOf", fn := fun _ => fun
  | [d1, d2] => { results := [.lit (.bool true)], args := [d1, d2] }
  | _ => none }
def fnExactDigestOfRow : OpenClaim := { program := "ytbdfeiohpbbgoaa", sum := "575b317c07e7b0f4f6f127f95c91e51f9d369d00d02c2604a213048ddda7d6fe", func := "loop.example/g00537/laws.FnExactDigestOf", spec := "fnExactDigestOf", apart := false }
def FnExactDigestOfSaid : Prop := fnExactDigestOfRow.holds Try.pinned (OpenSpec.ofChange fnExactDigestOfSpec)

/-- ITS FALSE NEIGHBOUR: 'it returns false'. Refute it at one input. -/
def fnExactDigestOfWrong : ChangeSpec := { name := "fnExactDigestOf", fn := fun _ => fun
  | [d1, d2] => { results := [.lit (.bool false)], args := [d1, d2] }
  | _ => none }
def FnExactDigestOfWrongFalsely : Prop := fnExactDigestOfRow.holds Try.pinned (OpenSpec.ofChange fnExactDigestOfWrong)

/-- 'laws.FnExactChainOf': WHATEVER THE INPUT: true; the input reads as it did. -/
def fnExactChainOfSpec : ChangeSpec := { name := "fnExactChainOf", fn := fun _ => fun
  | [d1, d2, d3] => { results := [.lit (.bool true)], args := [d1, d2, d3] }
  | _ => none }
def fnExactChainOfRow : OpenClaim := { program := "ytbdfeiohpbbgoaa", sum := "575b317c07e7b0f4f6f127f95c91e51f9d369d00d02c2604a213048ddda7d6fe", func := "loop.example/g00537/laws.FnExactChainOf", spec := "fnExactChainOf", apart := false }
def FnExactChainOfSaid : Prop := fnExactChainOfRow.holds Try.pinned (OpenSpec.ofChange fnExactChainOfSpec)

/-- ITS FALSE NEIGHBOUR: 'it returns false'. Refute it at one input. -/
def fnExactChainOfWrong : ChangeSpec := { name := "fnExactChainOf", fn := fun _ => fun
  | [d1, d2, d3] => { results := [.lit (.bool false)], args := [d1, d2, d3] }
  | _ => none }
def FnExactChainOfWrongFalsely : Prop := fnExactChainOfRow.holds Try.pinned (OpenSpec.ofChange fnExactChainOfWrong)

/-- 'laws.FnExactClashOf': WHATEVER THE INPUT: true; the input reads as it did. -/
def fnExactClashOfSpec : ChangeSpec := { name := "fnExactClashOf", fn := fun _ => fun
  | [d1, d2, d3] => { results := [.lit (.bool true)], args := [d1, d2, d3] }
  | _ => none }
def fnExactClashOfRow : OpenClaim := { program := "ytbdfeiohpbbgoaa", sum := "575b317c07e7b0f4f6f127f95c91e51f9d369d00d02c2604a213048ddda7d6fe", func := "loop.example/g00537/laws.FnExactClashOf", spec := "fnExactClashOf", apart := false }
def FnExactClashOfSaid : Prop := fnExactClashOfRow.holds Try.pinned (OpenSpec.ofChange fnExactClashOfSpec)

/-- ITS FALSE NEIGHBOUR: 'it returns false'. Refute it at one input. -/
def fnExactClashOfWrong : ChangeSpec := { name := "fnExactClashOf", fn := fun _ => fun
  | [d1, d2, d3] => { results := [.lit (.bool false)], args := [d1, d2, d3] }
  | _ => none }
def FnExactClashOfWrongFalsely : Prop := fnExactClashOfRow.holds Try.pinned (OpenSpec.ofChange fnExactClashOfWrong)

/-- 'laws.FnExactFarOf': WHATEVER THE INPUT: true; the input reads as it did. -/
def fnExactFarOfSpec : ChangeSpec := { name := "fnExactFarOf", fn := fun _ => fun
  | [d1, d2] => { results := [.lit (.bool true)], args := [d1, d2] }
  | _ => none }
def fnExactFarOfRow : OpenClaim := { program := "ytbdfeiohpbbgoaa", sum := "575b317c07e7b0f4f6f127f95c91e51f9d369d00d02c2604a213048ddda7d6fe", func := "loop.example/g00537/laws.FnExactFarOf", spec := "fnExactFarOf", apart := false }
def FnExactFarOfSaid : Prop := fnExactFarOfRow.holds Try.pinned (OpenSpec.ofChange fnExactFarOfSpec)

/-- ITS FALSE NEIGHBOUR: 'it returns false'. Refute it at one input. -/
def fnExactFarOfWrong : ChangeSpec := { name := "fnExactFarOf", fn := fun _ => fun
  | [d1, d2] => { results := [.lit (.bool false)], args := [d1, d2] }
  | _ => none }
def FnExactFarOfWrongFalsely : Prop := fnExactFarOfRow.holds Try.pinned (OpenSpec.ofChange fnExactFarOfWrong)

/-- 'laws.FnExactCommitOf': WHATEVER THE INPUT: true; the input reads as it did. -/
def fnExactCommitOfSpec : ChangeSpec := { name := "fnExactCommitOf", fn := fun _ => fun
  | [d1, d2, d3] => { results := [.lit (.bool true)], args := [d1, d2, d3] }
  | _ => none }
def fnExactCommitOfRow : OpenClaim := { program := "ytbdfeiohpbbgoaa", sum := "575b317c07e7b0f4f6f127f95c91e51f9d369d00d02c2604a213048ddda7d6fe", func := "loop.example/g00537/laws.FnExactCommitOf", spec := "fnExactCommitOf", apart := false }
def FnExactCommitOfSaid : Prop := fnExactCommitOfRow.holds Try.pinned (OpenSpec.ofChange fnExactCommitOfSpec)

/-- ITS FALSE NEIGHBOUR: 'it returns false'. Refute it at one input. -/
def fnExactCommitOfWrong : ChangeSpec := { name := "fnExactCommitOf", fn := fun _ => fun
  | [d1, d2, d3] => { results := [.lit (.bool false)], args := [d1, d2, d3] }
  | _ => none }
def FnExactCommitOfWrongFalsely : Prop := fnExactCommitOfRow.holds Try.pinned (OpenSpec.ofChange fnExactCommitOfWrong)

/-- 'laws.FnExactPublicOf': WHATEVER THE INPUT: true; the input reads as it did. -/
def fnExactPublicOfSpec : ChangeSpec := { name := "fnExactPublicOf", fn := fun _ => fun
  | [d] => { results := [.lit (.bool true)], args := [d] }
  | _ => none }
def fnExactPublicOfRow : OpenClaim := { program := "ytbdfeiohpbbgoaa", sum := "575b317c07e7b0f4f6f127f95c91e51f9d369d00d02c2604a213048ddda7d6fe", func := "loop.example/g00537/laws.FnExactPublicOf", spec := "fnExactPublicOf", apart := false }
def FnExactPublicOfSaid : Prop := fnExactPublicOfRow.holds Try.pinned (OpenSpec.ofChange fnExactPublicOfSpec)

/-- ITS FALSE NEIGHBOUR: 'it returns false'. Refute it at one input. -/
def fnExactPublicOfWrong : ChangeSpec := { name := "fnExactPublicOf", fn := fun _ => fun
  | [d] => { results := [.lit (.bool false)], args := [d] }
  | _ => none }
def FnExactPublicOfWrongFalsely : Prop := fnExactPublicOfRow.holds Try.pinned (OpenSpec.ofChange fnExactPublicOfWrong)

/- THE SECOND FORM. 'bulk': how many values and letters a reading holds, each counted each time it is reached (what is shared counts as often as it is met; a slice's spare places count too). A statement '..UptoSaid' is the law's where the arguments, and the package variables that the reading takes, are together of bulk at most 1048576: NARROWER than '..Said'. Prove '..Said' where nothing that the law and all that it calls make is longer than what came in: it says more and counts as full. Else prove '..UptoSaid'. A law counts once. -/
mutual
def uptoBulk {H : Type} : DataW H → Nat
  | .lit (.string bytes) => bytes.length + 1
  | .lit _ => 1
  | .nil => 1
  | .ptr d => uptoBulk d + 1
  | .slice elems spare => uptoBulkAll elems + uptoBulkAll spare + 1
  | .agg parts => uptoBulkAll parts + 1
  | .iface _ d => uptoBulk d + 1
  | .map entries => uptoBulkEntries entries + 1
  | .held _ => 1
def uptoBulkAll {H : Type} : List (DataW H) → Nat
  | [] => 0
  | d :: r => uptoBulk d + uptoBulkAll r
def uptoBulkEntries {H : Type} : List (Lit × DataW H) → Nat
  | [] => 0
  | x :: r => uptoBulkEntry x + uptoBulkEntries r
def uptoBulkEntry {H : Type} : Lit × DataW H → Nat
  | (.string bytes, d) => bytes.length + uptoBulk d + 1
  | (_, d) => uptoBulk d + 1
 end
def uptoSmall : (H : Type) → List (DataW H) → Bool := fun _ ds => decide (uptoBulkAll ds ≤ 1048576)
def OpenSpec.upto (s : _root_.Go.ChangeSpec) : _root_.Go.OpenSpec := { _root_.Go.OpenSpec.ofChange s with cond := some uptoSmall }

/-- 'laws.FnExactDigestOf', WHERE WHAT IT READS IS OF BULK AT MOST 1048576: true; the input reads as it did. -/
def fnExactDigestOfUptoRow : OpenClaim := { program := "ytbdfeiohpbbgoaa", sum := "575b317c07e7b0f4f6f127f95c91e51f9d369d00d02c2604a213048ddda7d6fe", func := "loop.example/g00537/laws.FnExactDigestOf", spec := "fnExactDigestOf", apart := false, narrowed := true }
def FnExactDigestOfUptoSaid : Prop := fnExactDigestOfUptoRow.holds Try.pinned (OpenSpec.upto fnExactDigestOfSpec)

/-- 'laws.FnExactChainOf', WHERE WHAT IT READS IS OF BULK AT MOST 1048576: true; the input reads as it did. -/
def fnExactChainOfUptoRow : OpenClaim := { program := "ytbdfeiohpbbgoaa", sum := "575b317c07e7b0f4f6f127f95c91e51f9d369d00d02c2604a213048ddda7d6fe", func := "loop.example/g00537/laws.FnExactChainOf", spec := "fnExactChainOf", apart := false, narrowed := true }
def FnExactChainOfUptoSaid : Prop := fnExactChainOfUptoRow.holds Try.pinned (OpenSpec.upto fnExactChainOfSpec)

/-- 'laws.FnExactClashOf', WHERE WHAT IT READS IS OF BULK AT MOST 1048576: true; the input reads as it did. -/
def fnExactClashOfUptoRow : OpenClaim := { program := "ytbdfeiohpbbgoaa", sum := "575b317c07e7b0f4f6f127f95c91e51f9d369d00d02c2604a213048ddda7d6fe", func := "loop.example/g00537/laws.FnExactClashOf", spec := "fnExactClashOf", apart := false, narrowed := true }
def FnExactClashOfUptoSaid : Prop := fnExactClashOfUptoRow.holds Try.pinned (OpenSpec.upto fnExactClashOfSpec)

/-- 'laws.FnExactFarOf', WHERE WHAT IT READS IS OF BULK AT MOST 1048576: true; the input reads as it did. -/
def fnExactFarOfUptoRow : OpenClaim := { program := "ytbdfeiohpbbgoaa", sum := "575b317c07e7b0f4f6f127f95c91e51f9d369d00d02c2604a213048ddda7d6fe", func := "loop.example/g00537/laws.FnExactFarOf", spec := "fnExactFarOf", apart := false, narrowed := true }
def FnExactFarOfUptoSaid : Prop := fnExactFarOfUptoRow.holds Try.pinned (OpenSpec.upto fnExactFarOfSpec)

/-- 'laws.FnExactCommitOf', WHERE WHAT IT READS IS OF BULK AT MOST 1048576: true; the input reads as it did. -/
def fnExactCommitOfUptoRow : OpenClaim := { program := "ytbdfeiohpbbgoaa", sum := "575b317c07e7b0f4f6f127f95c91e51f9d369d00d02c2604a213048ddda7d6fe", func := "loop.example/g00537/laws.FnExactCommitOf", spec := "fnExactCommitOf", apart := false, narrowed := true }
def FnExactCommitOfUptoSaid : Prop := fnExactCommitOfUptoRow.holds Try.pinned (OpenSpec.upto fnExactCommitOfSpec)

/-- 'laws.FnExactPublicOf', WHERE WHAT IT READS IS OF BULK AT MOST 1048576: true; the input reads as it did. -/
def fnExactPublicOfUptoRow : OpenClaim := { program := "ytbdfeiohpbbgoaa", sum := "575b317c07e7b0f4f6f127f95c91e51f9d369d00d02c2604a213048ddda7d6fe", func := "loop.example/g00537/laws.FnExactPublicOf", spec := "fnExactPublicOf", apart := false, narrowed := true }
def FnExactPublicOfUptoSaid : Prop := fnExactPublicOfUptoRow.holds Try.pinned (OpenSpec.upto fnExactPublicOfSpec)

end Rows
end Go.Proofs.Ytbdfeiohpbbgoaa
