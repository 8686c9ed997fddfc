/-
  No cell of these rows narrows 'for every input' (looked for: loops, veiled, ifaces, maps, wideKeys, modest, calm, conditions, laid).
  DERIVED. THE GIVEN ROWS OF THIS SEAT. 6 by the template 'for every input the law returns true; each argument reads behind the call as it read before'; 0 by the template 'total and deterministic' (their statements: YtpfjlnfgekeobaaTotals.lean).
  GIVEN WITH THE SEED: the statements are not yours to turn. If you find one false, say at which input.
  Laid BY PROGRAM, IN A SANDBOX (cutbox-rows.mjs): the forced cells as the released guide's own fill.sh prints them over the translation 79a6fc17d99f894e… (all of the seat's roots in one cut). By AI agents, Wed Nov 11 2026. No macro, syntax, notation, axiom, sorry.
-/
import Derived.Test.YtpfjlnfgekeobaaChecked
import GoSem.Claim
import GoSem.ClaimJoined
import GoSem.ClaimMapViews
import Derived.JoinedTies
import Derived.KernelRfl
namespace Go.Proofs.Ytpfjlnfgekeobaa
/- THE CELL 'sum', in the pinned program and in every row, IS THE sha256 OF THE DUMP (.gsa) THAT YtpfjlnfgekeobaaProg.lean LOADS. Nothing in Lean hashes anything: it is a label: what it is worth is what the hold of that sum in a sandbox is worth. -/
noncomputable def Try.pinned : Pinned := { name := "ytpfjlnfgekeobaa", sum := "79a6fc17d99f894e93678312c6f1eeb1cbb2257534817f25a63660f0fd7c9c74", checked := Try.checked }
namespace Rows
def none {H : Type} : Left H := { results := [], args := [] }

/-- 'laws.FnExactHistoryOf': WHATEVER THE INPUT: true; the input reads as it did. -/
def fnExactHistoryOfSpec : ChangeSpec := { name := "fnExactHistoryOf", fn := fun _ => fun
  | [d1, d2] => { results := [.lit (.bool true)], args := [d1, d2] }
  | _ => none }
def fnExactHistoryOfRow : OpenClaim := { program := "ytpfjlnfgekeobaa", sum := "79a6fc17d99f894e93678312c6f1eeb1cbb2257534817f25a63660f0fd7c9c74", func := "loop.example/g00537/laws.FnExactHistoryOf", spec := "fnExactHistoryOf", inPlace := ["internal/bytealg.abigen_runtime_cmpstring"], unfollowed := true, recurses := true, apart := false }
def FnExactHistoryOfSaid : Prop := fnExactHistoryOfRow.holds Try.pinned (OpenSpec.ofChange fnExactHistoryOfSpec)

/-- ITS FALSE NEIGHBOUR: 'it returns false'. Refute it at one input. -/
def fnExactHistoryOfWrong : ChangeSpec := { name := "fnExactHistoryOf", fn := fun _ => fun
  | [d1, d2] => { results := [.lit (.bool false)], args := [d1, d2] }
  | _ => none }
def FnExactHistoryOfWrongFalsely : Prop := fnExactHistoryOfRow.holds Try.pinned (OpenSpec.ofChange fnExactHistoryOfWrong)

/-- 'laws.FnExactThinOut': WHATEVER THE INPUT: true; the input reads as it did. -/
def fnExactThinOutSpec : ChangeSpec := { name := "fnExactThinOut", fn := fun _ => fun
  | [d1, d2] => { results := [.lit (.bool true)], args := [d1, d2] }
  | _ => none }
def fnExactThinOutRow : OpenClaim := { program := "ytpfjlnfgekeobaa", sum := "79a6fc17d99f894e93678312c6f1eeb1cbb2257534817f25a63660f0fd7c9c74", func := "loop.example/g00537/laws.FnExactThinOut", spec := "fnExactThinOut", inPlace := ["internal/bytealg.abigen_runtime_cmpstring"], apart := false }
def FnExactThinOutSaid : Prop := fnExactThinOutRow.holds Try.pinned (OpenSpec.ofChange fnExactThinOutSpec)

/-- ITS FALSE NEIGHBOUR: 'it returns false'. Refute it at one input. -/
def fnExactThinOutWrong : ChangeSpec := { name := "fnExactThinOut", fn := fun _ => fun
  | [d1, d2] => { results := [.lit (.bool false)], args := [d1, d2] }
  | _ => none }
def FnExactThinOutWrongFalsely : Prop := fnExactThinOutRow.holds Try.pinned (OpenSpec.ofChange fnExactThinOutWrong)

/-- 'laws.FnExactKeysAt': WHATEVER THE INPUT: true; the input reads as it did. -/
def fnExactKeysAtSpec : ChangeSpec := { name := "fnExactKeysAt", fn := fun _ => fun
  | [d1, d2] => { results := [.lit (.bool true)], args := [d1, d2] }
  | _ => none }
def fnExactKeysAtRow : OpenClaim := { program := "ytpfjlnfgekeobaa", sum := "79a6fc17d99f894e93678312c6f1eeb1cbb2257534817f25a63660f0fd7c9c74", func := "loop.example/g00537/laws.FnExactKeysAt", spec := "fnExactKeysAt", inPlace := ["internal/bytealg.abigen_runtime_cmpstring"], apart := false }
def FnExactKeysAtSaid : Prop := fnExactKeysAtRow.holds Try.pinned (OpenSpec.ofChange fnExactKeysAtSpec)

/-- ITS FALSE NEIGHBOUR: 'it returns false'. Refute it at one input. -/
def fnExactKeysAtWrong : ChangeSpec := { name := "fnExactKeysAt", fn := fun _ => fun
  | [d1, d2] => { results := [.lit (.bool false)], args := [d1, d2] }
  | _ => none }
def FnExactKeysAtWrongFalsely : Prop := fnExactKeysAtRow.holds Try.pinned (OpenSpec.ofChange fnExactKeysAtWrong)

/-- 'laws.FnExactPutVersion': WHATEVER THE INPUT: true; the input reads as it did. -/
def fnExactPutVersionSpec : ChangeSpec := { name := "fnExactPutVersion", fn := fun _ => fun
  | [d1, d2] => { results := [.lit (.bool true)], args := [d1, d2] }
  | _ => none }
def fnExactPutVersionRow : OpenClaim := { program := "ytpfjlnfgekeobaa", sum := "79a6fc17d99f894e93678312c6f1eeb1cbb2257534817f25a63660f0fd7c9c74", func := "loop.example/g00537/laws.FnExactPutVersion", spec := "fnExactPutVersion", inPlace := ["internal/bytealg.abigen_runtime_cmpstring", "slices.overlaps[loop.example/g00537/impl.Version]"], unfollowed := true, recurses := true, apart := false }
def FnExactPutVersionSaid : Prop := fnExactPutVersionRow.holds Try.pinned (OpenSpec.ofChange fnExactPutVersionSpec)

/-- ITS FALSE NEIGHBOUR: 'it returns false'. Refute it at one input. -/
def fnExactPutVersionWrong : ChangeSpec := { name := "fnExactPutVersion", fn := fun _ => fun
  | [d1, d2] => { results := [.lit (.bool false)], args := [d1, d2] }
  | _ => none }
def FnExactPutVersionWrongFalsely : Prop := fnExactPutVersionRow.holds Try.pinned (OpenSpec.ofChange fnExactPutVersionWrong)

/-- 'laws.FnExactChangesIn': WHATEVER THE INPUT: true; the input reads as it did. -/
def fnExactChangesInSpec : ChangeSpec := { name := "fnExactChangesIn", fn := fun _ => fun
  | [d1, d2, d3] => { results := [.lit (.bool true)], args := [d1, d2, d3] }
  | _ => none }
def fnExactChangesInRow : OpenClaim := { program := "ytpfjlnfgekeobaa", sum := "79a6fc17d99f894e93678312c6f1eeb1cbb2257534817f25a63660f0fd7c9c74", func := "loop.example/g00537/laws.FnExactChangesIn", spec := "fnExactChangesIn", inPlace := ["internal/bytealg.abigen_runtime_cmpstring"], unfollowed := true, recurses := true, apart := false }
def FnExactChangesInSaid : Prop := fnExactChangesInRow.holds Try.pinned (OpenSpec.ofChange fnExactChangesInSpec)

/-- ITS FALSE NEIGHBOUR: 'it returns false'. Refute it at one input. -/
def fnExactChangesInWrong : ChangeSpec := { name := "fnExactChangesIn", fn := fun _ => fun
  | [d1, d2, d3] => { results := [.lit (.bool false)], args := [d1, d2, d3] }
  | _ => none }
def FnExactChangesInWrongFalsely : Prop := fnExactChangesInRow.holds Try.pinned (OpenSpec.ofChange fnExactChangesInWrong)

/-- 'laws.FnExactMergeVersions': WHATEVER THE INPUT: true; the input reads as it did. -/
def fnExactMergeVersionsSpec : ChangeSpec := { name := "fnExactMergeVersions", fn := fun _ => fun
  | [d1, d2] => { results := [.lit (.bool true)], args := [d1, d2] }
  | _ => none }
def fnExactMergeVersionsRow : OpenClaim := { program := "ytpfjlnfgekeobaa", sum := "79a6fc17d99f894e93678312c6f1eeb1cbb2257534817f25a63660f0fd7c9c74", func := "loop.example/g00537/laws.FnExactMergeVersions", spec := "fnExactMergeVersions", inPlace := ["internal/bytealg.abigen_runtime_cmpstring"], unfollowed := true, recurses := true, apart := false }
def FnExactMergeVersionsSaid : Prop := fnExactMergeVersionsRow.holds Try.pinned (OpenSpec.ofChange fnExactMergeVersionsSpec)

/-- ITS FALSE NEIGHBOUR: 'it returns false'. Refute it at one input. -/
def fnExactMergeVersionsWrong : ChangeSpec := { name := "fnExactMergeVersions", fn := fun _ => fun
  | [d1, d2] => { results := [.lit (.bool false)], args := [d1, d2] }
  | _ => none }
def FnExactMergeVersionsWrongFalsely : Prop := fnExactMergeVersionsRow.holds Try.pinned (OpenSpec.ofChange fnExactMergeVersionsWrong)

/- THE SECOND FORM. 'bulk': how many values and letters a reading holds, each counted each time it is reached (what is shared counts as often as it is met; a slice's spare places count too). A statement '..UptoSaid' is the law's where the arguments, and the package variables that the reading takes, are together of bulk at most 1048576: NARROWER than '..Said'. Prove '..Said' where nothing that the law and all that it calls make is longer than what came in: it says more and counts as full. Else prove '..UptoSaid'. A law counts once. -/
mutual
def uptoBulk {H : Type} : DataW H → Nat
  | .lit (.string bytes) => bytes.length + 1
  | .lit _ => 1
  | .nil => 1
  | .ptr d => uptoBulk d + 1
  | .slice elems spare => uptoBulkAll elems + uptoBulkAll spare + 1
  | .agg parts => uptoBulkAll parts + 1
  | .iface _ d => uptoBulk d + 1
  | .map entries => uptoBulkEntries entries + 1
  | .held _ => 1
def uptoBulkAll {H : Type} : List (DataW H) → Nat
  | [] => 0
  | d :: r => uptoBulk d + uptoBulkAll r
def uptoBulkEntries {H : Type} : List (Lit × DataW H) → Nat
  | [] => 0
  | x :: r => uptoBulkEntry x + uptoBulkEntries r
def uptoBulkEntry {H : Type} : Lit × DataW H → Nat
  | (.string bytes, d) => bytes.length + uptoBulk d + 1
  | (_, d) => uptoBulk d + 1
 end
def uptoSmall : (H : Type) → List (DataW H) → Bool := fun _ ds => decide (uptoBulkAll ds ≤ 1048576)
def OpenSpec.upto (s : _root_.Go.ChangeSpec) : _root_.Go.OpenSpec := { _root_.Go.OpenSpec.ofChange s with cond := some uptoSmall }

/-- 'laws.FnExactHistoryOf', WHERE WHAT IT READS IS OF BULK AT MOST 1048576: true; the input reads as it did. -/
def fnExactHistoryOfUptoRow : OpenClaim := { program := "ytpfjlnfgekeobaa", sum := "79a6fc17d99f894e93678312c6f1eeb1cbb2257534817f25a63660f0fd7c9c74", func := "loop.example/g00537/laws.FnExactHistoryOf", spec := "fnExactHistoryOf", inPlace := ["internal/bytealg.abigen_runtime_cmpstring"], unfollowed := true, recurses := true, apart := false, narrowed := true }
def FnExactHistoryOfUptoSaid : Prop := fnExactHistoryOfUptoRow.holds Try.pinned (OpenSpec.upto fnExactHistoryOfSpec)

/-- 'laws.FnExactThinOut', WHERE WHAT IT READS IS OF BULK AT MOST 1048576: true; the input reads as it did. -/
def fnExactThinOutUptoRow : OpenClaim := { program := "ytpfjlnfgekeobaa", sum := "79a6fc17d99f894e93678312c6f1eeb1cbb2257534817f25a63660f0fd7c9c74", func := "loop.example/g00537/laws.FnExactThinOut", spec := "fnExactThinOut", inPlace := ["internal/bytealg.abigen_runtime_cmpstring"], apart := false, narrowed := true }
def FnExactThinOutUptoSaid : Prop := fnExactThinOutUptoRow.holds Try.pinned (OpenSpec.upto fnExactThinOutSpec)

/-- 'laws.FnExactKeysAt', WHERE WHAT IT READS IS OF BULK AT MOST 1048576: true; the input reads as it did. -/
def fnExactKeysAtUptoRow : OpenClaim := { program := "ytpfjlnfgekeobaa", sum := "79a6fc17d99f894e93678312c6f1eeb1cbb2257534817f25a63660f0fd7c9c74", func := "loop.example/g00537/laws.FnExactKeysAt", spec := "fnExactKeysAt", inPlace := ["internal/bytealg.abigen_runtime_cmpstring"], apart := false, narrowed := true }
def FnExactKeysAtUptoSaid : Prop := fnExactKeysAtUptoRow.holds Try.pinned (OpenSpec.upto fnExactKeysAtSpec)

/-- 'laws.FnExactPutVersion', WHERE WHAT IT READS IS OF BULK AT MOST 1048576: true; the input reads as it did. -/
def fnExactPutVersionUptoRow : OpenClaim := { program := "ytpfjlnfgekeobaa", sum := "79a6fc17d99f894e93678312c6f1eeb1cbb2257534817f25a63660f0fd7c9c74", func := "loop.example/g00537/laws.FnExactPutVersion", spec := "fnExactPutVersion", inPlace := ["internal/bytealg.abigen_runtime_cmpstring", "slices.overlaps[loop.example/g00537/impl.Version]"], unfollowed := true, recurses := true, apart := false, narrowed := true }
def FnExactPutVersionUptoSaid : Prop := fnExactPutVersionUptoRow.holds Try.pinned (OpenSpec.upto fnExactPutVersionSpec)

/-- 'laws.FnExactChangesIn', WHERE WHAT IT READS IS OF BULK AT MOST 1048576: true; the input reads as it did. -/
def fnExactChangesInUptoRow : OpenClaim := { program := "ytpfjlnfgekeobaa", sum := "79a6fc17d99f894e93678312c6f1eeb1cbb2257534817f25a63660f0fd7c9c74", func := "loop.example/g00537/laws.FnExactChangesIn", spec := "fnExactChangesIn", inPlace := ["internal/bytealg.abigen_runtime_cmpstring"], unfollowed := true, recurses := true, apart := false, narrowed := true }
def FnExactChangesInUptoSaid : Prop := fnExactChangesInUptoRow.holds Try.pinned (OpenSpec.upto fnExactChangesInSpec)

/-- 'laws.FnExactMergeVersions', WHERE WHAT IT READS IS OF BULK AT MOST 1048576: true; the input reads as it did. -/
def fnExactMergeVersionsUptoRow : OpenClaim := { program := "ytpfjlnfgekeobaa", sum := "79a6fc17d99f894e93678312c6f1eeb1cbb2257534817f25a63660f0fd7c9c74", func := "loop.example/g00537/laws.FnExactMergeVersions", spec := "fnExactMergeVersions", inPlace := ["internal/bytealg.abigen_runtime_cmpstring"], unfollowed := true, recurses := true, apart := false, narrowed := true }
def FnExactMergeVersionsUptoSaid : Prop := fnExactMergeVersionsUptoRow.holds Try.pinned (OpenSpec.upto fnExactMergeVersionsSpec)

end Rows
end Go.Proofs.Ytpfjlnfgekeobaa
