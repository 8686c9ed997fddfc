/-
  No cell of these rows narrows 'for every input' (looked for: loops, veiled, ifaces, maps, wideKeys, modest, calm, conditions, laid).
  DERIVED. THE GIVEN ROWS OF THIS SEAT. 4 by the template 'for every input the law returns true; each argument reads behind the call as it read before'; 0 by the template 'total and deterministic' (their statements: YtabfkalcjfjkiaaTotals.lean).
  GIVEN WITH THE SEED: the statements are not yours to turn. If you find one false, say at which input.
  Laid BY PROGRAM, IN A SANDBOX (cutbox-rows.mjs): the forced cells as the released guide's own fill.sh prints them over the translation 5924eba496b269bb… (all of the seat's roots in one cut). By AI agents, Wed Nov 11 2026. No macro, syntax, notation, axiom, sorry.
-/
import Derived.Test.YtabfkalcjfjkiaaChecked
import GoSem.Claim
import GoSem.ClaimJoined
import GoSem.ClaimMapViews
import Derived.JoinedTies
import Derived.KernelRfl
namespace Go.Proofs.Ytabfkalcjfjkiaa
/- THE CELL 'sum', in the pinned program and in every row, IS THE sha256 OF THE DUMP (.gsa) THAT YtabfkalcjfjkiaaProg.lean LOADS. Nothing in Lean hashes anything: it is a label: what it is worth is what the hold of that sum in a sandbox is worth. -/
noncomputable def Try.pinned : Pinned := { name := "ytabfkalcjfjkiaa", sum := "5924eba496b269bbbcf74563a6b3e84b76d51a792537027f0c160da43e3924cf", checked := Try.checked }
namespace Rows
def none {H : Type} : Left H := { results := [], args := [] }

/-- 'laws.FnBest': WHATEVER THE INPUT: true; the input reads as it did. -/
def fnBestSpec : ChangeSpec := { name := "fnBest", fn := fun _ => fun
  | [d1, d2] => { results := [.lit (.bool true)], args := [d1, d2] }
  | _ => none }
def fnBestRow : OpenClaim := { program := "ytabfkalcjfjkiaa", sum := "5924eba496b269bbbcf74563a6b3e84b76d51a792537027f0c160da43e3924cf", func := "loop.example/g00537/laws.FnBest", spec := "fnBest", unfollowed := true, recurses := true, apart := false }
def FnBestSaid : Prop := fnBestRow.holds Try.pinned (OpenSpec.ofChange fnBestSpec)

/-- ITS FALSE NEIGHBOUR: 'it returns false'. Refute it at one input. -/
def fnBestWrong : ChangeSpec := { name := "fnBest", fn := fun _ => fun
  | [d1, d2] => { results := [.lit (.bool false)], args := [d1, d2] }
  | _ => none }
def FnBestWrongFalsely : Prop := fnBestRow.holds Try.pinned (OpenSpec.ofChange fnBestWrong)

/-- 'laws.FnExactPutVersion': WHATEVER THE INPUT: true; the input reads as it did. -/
def fnExactPutVersionSpec : ChangeSpec := { name := "fnExactPutVersion", fn := fun _ => fun
  | [d1, d2] => { results := [.lit (.bool true)], args := [d1, d2] }
  | _ => none }
def fnExactPutVersionRow : OpenClaim := { program := "ytabfkalcjfjkiaa", sum := "5924eba496b269bbbcf74563a6b3e84b76d51a792537027f0c160da43e3924cf", func := "loop.example/g00537/laws.FnExactPutVersion", spec := "fnExactPutVersion", inPlace := ["internal/bytealg.abigen_runtime_cmpstring", "slices.overlaps[loop.example/g00537/impl.Version]"], unfollowed := true, recurses := true, apart := false }
def FnExactPutVersionSaid : Prop := fnExactPutVersionRow.holds Try.pinned (OpenSpec.ofChange fnExactPutVersionSpec)

/-- ITS FALSE NEIGHBOUR: 'it returns false'. Refute it at one input. -/
def fnExactPutVersionWrong : ChangeSpec := { name := "fnExactPutVersion", fn := fun _ => fun
  | [d1, d2] => { results := [.lit (.bool false)], args := [d1, d2] }
  | _ => none }
def FnExactPutVersionWrongFalsely : Prop := fnExactPutVersionRow.holds Try.pinned (OpenSpec.ofChange fnExactPutVersionWrong)

/-- 'laws.FnAsOf': WHATEVER THE INPUT: true; the input reads as it did. -/
def fnAsOfSpec : ChangeSpec := { name := "fnAsOf", fn := fun _ => fun
  | [d1, d2] => { results := [.lit (.bool true)], args := [d1, d2] }
  | _ => none }
def fnAsOfRow : OpenClaim := { program := "ytabfkalcjfjkiaa", sum := "5924eba496b269bbbcf74563a6b3e84b76d51a792537027f0c160da43e3924cf", func := "loop.example/g00537/laws.FnAsOf", spec := "fnAsOf", inPlace := ["internal/bytealg.abigen_runtime_cmpstring", "slices.overlaps[loop.example/g00537/impl.Version]"], unfollowed := true, recurses := true, apart := false }
def FnAsOfSaid : Prop := fnAsOfRow.holds Try.pinned (OpenSpec.ofChange fnAsOfSpec)

/-- ITS FALSE NEIGHBOUR: 'it returns false'. Refute it at one input. -/
def fnAsOfWrong : ChangeSpec := { name := "fnAsOf", fn := fun _ => fun
  | [d1, d2] => { results := [.lit (.bool false)], args := [d1, d2] }
  | _ => none }
def FnAsOfWrongFalsely : Prop := fnAsOfRow.holds Try.pinned (OpenSpec.ofChange fnAsOfWrong)

/-- 'laws.FnThin': WHATEVER THE INPUT: true; the input reads as it did. -/
def fnThinSpec : ChangeSpec := { name := "fnThin", fn := fun _ => fun
  | [d1, d2] => { results := [.lit (.bool true)], args := [d1, d2] }
  | _ => none }
def fnThinRow : OpenClaim := { program := "ytabfkalcjfjkiaa", sum := "5924eba496b269bbbcf74563a6b3e84b76d51a792537027f0c160da43e3924cf", func := "loop.example/g00537/laws.FnThin", spec := "fnThin", inPlace := ["internal/bytealg.abigen_runtime_cmpstring"], unfollowed := true, recurses := true, apart := false }
def FnThinSaid : Prop := fnThinRow.holds Try.pinned (OpenSpec.ofChange fnThinSpec)

/-- ITS FALSE NEIGHBOUR: 'it returns false'. Refute it at one input. -/
def fnThinWrong : ChangeSpec := { name := "fnThin", fn := fun _ => fun
  | [d1, d2] => { results := [.lit (.bool false)], args := [d1, d2] }
  | _ => none }
def FnThinWrongFalsely : Prop := fnThinRow.holds Try.pinned (OpenSpec.ofChange fnThinWrong)

/- THE SECOND FORM. 'bulk': how many values and letters a reading holds, each counted each time it is reached (what is shared counts as often as it is met; a slice's spare places count too). A statement '..UptoSaid' is the law's where the arguments, and the package variables that the reading takes, are together of bulk at most 1048576: NARROWER than '..Said'. Prove '..Said' where nothing that the law and all that it calls make is longer than what came in: it says more and counts as full. Else prove '..UptoSaid'. A law counts once. -/
mutual
def uptoBulk {H : Type} : DataW H → Nat
  | .lit (.string bytes) => bytes.length + 1
  | .lit _ => 1
  | .nil => 1
  | .ptr d => uptoBulk d + 1
  | .slice elems spare => uptoBulkAll elems + uptoBulkAll spare + 1
  | .agg parts => uptoBulkAll parts + 1
  | .iface _ d => uptoBulk d + 1
  | .map entries => uptoBulkEntries entries + 1
  | .held _ => 1
def uptoBulkAll {H : Type} : List (DataW H) → Nat
  | [] => 0
  | d :: r => uptoBulk d + uptoBulkAll r
def uptoBulkEntries {H : Type} : List (Lit × DataW H) → Nat
  | [] => 0
  | x :: r => uptoBulkEntry x + uptoBulkEntries r
def uptoBulkEntry {H : Type} : Lit × DataW H → Nat
  | (.string bytes, d) => bytes.length + uptoBulk d + 1
  | (_, d) => uptoBulk d + 1
 end
def uptoSmall : (H : Type) → List (DataW H) → Bool := fun _ ds => decide (uptoBulkAll ds ≤ 1048576)
def OpenSpec.upto (s : _root_.Go.ChangeSpec) : _root_.Go.OpenSpec := { _root_.Go.OpenSpec.ofChange s with cond := some uptoSmall }

/-- 'laws.FnBest', WHERE WHAT IT READS IS OF BULK AT MOST 1048576: true; the input reads as it did. -/
def fnBestUptoRow : OpenClaim := { program := "ytabfkalcjfjkiaa", sum := "5924eba496b269bbbcf74563a6b3e84b76d51a792537027f0c160da43e3924cf", func := "loop.example/g00537/laws.FnBest", spec := "fnBest", unfollowed := true, recurses := true, apart := false, narrowed := true }
def FnBestUptoSaid : Prop := fnBestUptoRow.holds Try.pinned (OpenSpec.upto fnBestSpec)

/-- 'laws.FnExactPutVersion', WHERE WHAT IT READS IS OF BULK AT MOST 1048576: true; the input reads as it did. -/
def fnExactPutVersionUptoRow : OpenClaim := { program := "ytabfkalcjfjkiaa", sum := "5924eba496b269bbbcf74563a6b3e84b76d51a792537027f0c160da43e3924cf", func := "loop.example/g00537/laws.FnExactPutVersion", spec := "fnExactPutVersion", inPlace := ["internal/bytealg.abigen_runtime_cmpstring", "slices.overlaps[loop.example/g00537/impl.Version]"], unfollowed := true, recurses := true, apart := false, narrowed := true }
def FnExactPutVersionUptoSaid : Prop := fnExactPutVersionUptoRow.holds Try.pinned (OpenSpec.upto fnExactPutVersionSpec)

/-- 'laws.FnAsOf', WHERE WHAT IT READS IS OF BULK AT MOST 1048576: true; the input reads as it did. -/
def fnAsOfUptoRow : OpenClaim := { program := "ytabfkalcjfjkiaa", sum := "5924eba496b269bbbcf74563a6b3e84b76d51a792537027f0c160da43e3924cf", func := "loop.example/g00537/laws.FnAsOf", spec := "fnAsOf", inPlace := ["internal/bytealg.abigen_runtime_cmpstring", "slices.overlaps[loop.example/g00537/impl.Version]"], unfollowed := true, recurses := true, apart := false, narrowed := true }
def FnAsOfUptoSaid : Prop := fnAsOfUptoRow.holds Try.pinned (OpenSpec.upto fnAsOfSpec)

/-- 'laws.FnThin', WHERE WHAT IT READS IS OF BULK AT MOST 1048576: true; the input reads as it did. -/
def fnThinUptoRow : OpenClaim := { program := "ytabfkalcjfjkiaa", sum := "5924eba496b269bbbcf74563a6b3e84b76d51a792537027f0c160da43e3924cf", func := "loop.example/g00537/laws.FnThin", spec := "fnThin", inPlace := ["internal/bytealg.abigen_runtime_cmpstring"], unfollowed := true, recurses := true, apart := false, narrowed := true }
def FnThinUptoSaid : Prop := fnThinUptoRow.holds Try.pinned (OpenSpec.upto fnThinSpec)

end Rows
end Go.Proofs.Ytabfkalcjfjkiaa
