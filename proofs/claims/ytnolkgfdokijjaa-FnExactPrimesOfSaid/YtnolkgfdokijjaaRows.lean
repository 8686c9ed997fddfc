/-
  No cell of these rows narrows 'for every input' (looked for: loops, veiled, ifaces, maps, wideKeys, modest, calm, conditions, laid).
  DERIVED. THE GIVEN ROWS OF THIS SEAT. 5 by the template 'for every input the law returns true; each argument reads behind the call as it read before'; 0 by the template 'total and deterministic' (their statements: YtnolkgfdokijjaaTotals.lean).
  GIVEN WITH THE SEED: the statements are not yours to turn. If you find one false, say at which input.
  Laid BY PROGRAM, IN A SANDBOX (cutbox-rows.mjs): the forced cells as the released guide's own fill.sh prints them over the translation 609b426ab8adb3f3… (all of the seat's roots in one cut). By AI agents, Wed Nov 11 2026. No macro, syntax, notation, axiom, sorry.
-/
import Derived.Test.YtnolkgfdokijjaaChecked
import GoSem.Claim
import GoSem.ClaimJoined
import GoSem.ClaimMapViews
import Derived.JoinedTies
import Derived.KernelRfl
namespace Go.Proofs.Ytnolkgfdokijjaa
/- THE CELL 'sum', in the pinned program and in every row, IS THE sha256 OF THE DUMP (.gsa) THAT YtnolkgfdokijjaaProg.lean LOADS. Nothing in Lean hashes anything: it is a label: what it is worth is what the hold of that sum in a sandbox is worth. -/
noncomputable def Try.pinned : Pinned := { name := "ytnolkgfdokijjaa", sum := "609b426ab8adb3f38929108e505eeae476ec4ab5cc632bd52f11cc0380a9c03a", checked := Try.checked }
namespace Rows
def none {H : Type} : Left H := { results := [], args := [] }

/-- 'laws.FnExactSameQuery': WHATEVER THE INPUT: true; the input reads as it did. -/
def fnExactSameQuerySpec : ChangeSpec := { name := "fnExactSameQuery", fn := fun _ => fun
  | [d1, d2] => { results := [.lit (.bool true)], args := [d1, d2] }
  | _ => none }
def fnExactSameQueryRow : OpenClaim := { program := "ytnolkgfdokijjaa", sum := "609b426ab8adb3f38929108e505eeae476ec4ab5cc632bd52f11cc0380a9c03a", func := "loop.example/g00537/laws.FnExactSameQuery", spec := "fnExactSameQuery", unfollowed := true, recurses := true, apart := false }
def FnExactSameQuerySaid : Prop := fnExactSameQueryRow.holds Try.pinned (OpenSpec.ofChange fnExactSameQuerySpec)

/-- ITS FALSE NEIGHBOUR: 'it returns false'. Refute it at one input. -/
def fnExactSameQueryWrong : ChangeSpec := { name := "fnExactSameQuery", fn := fun _ => fun
  | [d1, d2] => { results := [.lit (.bool false)], args := [d1, d2] }
  | _ => none }
def FnExactSameQueryWrongFalsely : Prop := fnExactSameQueryRow.holds Try.pinned (OpenSpec.ofChange fnExactSameQueryWrong)

/-- 'laws.FnExactTermsOf': WHATEVER THE INPUT: true; the input reads as it did. -/
def fnExactTermsOfSpec : ChangeSpec := { name := "fnExactTermsOf", fn := fun _ => fun
  | [d] => { results := [.lit (.bool true)], args := [d] }
  | _ => none }
def fnExactTermsOfRow : OpenClaim := { program := "ytnolkgfdokijjaa", sum := "609b426ab8adb3f38929108e505eeae476ec4ab5cc632bd52f11cc0380a9c03a", func := "loop.example/g00537/laws.FnExactTermsOf", spec := "fnExactTermsOf", unfollowed := true, recurses := true, apart := false }
def FnExactTermsOfSaid : Prop := fnExactTermsOfRow.holds Try.pinned (OpenSpec.ofChange fnExactTermsOfSpec)

/-- ITS FALSE NEIGHBOUR: 'it returns false'. Refute it at one input. -/
def fnExactTermsOfWrong : ChangeSpec := { name := "fnExactTermsOf", fn := fun _ => fun
  | [d] => { results := [.lit (.bool false)], args := [d] }
  | _ => none }
def FnExactTermsOfWrongFalsely : Prop := fnExactTermsOfRow.holds Try.pinned (OpenSpec.ofChange fnExactTermsOfWrong)

/-- 'laws.FnExactPrimesOf': WHATEVER THE INPUT: true; the input reads as it did. -/
def fnExactPrimesOfSpec : ChangeSpec := { name := "fnExactPrimesOf", fn := fun _ => fun
  | [d] => { results := [.lit (.bool true)], args := [d] }
  | _ => none }
def fnExactPrimesOfRow : OpenClaim := { program := "ytnolkgfdokijjaa", sum := "609b426ab8adb3f38929108e505eeae476ec4ab5cc632bd52f11cc0380a9c03a", func := "loop.example/g00537/laws.FnExactPrimesOf", spec := "fnExactPrimesOf", unfollowed := true, recurses := true, apart := false }
def FnExactPrimesOfSaid : Prop := fnExactPrimesOfRow.holds Try.pinned (OpenSpec.ofChange fnExactPrimesOfSpec)

/-- ITS FALSE NEIGHBOUR: 'it returns false'. Refute it at one input. -/
def fnExactPrimesOfWrong : ChangeSpec := { name := "fnExactPrimesOf", fn := fun _ => fun
  | [d] => { results := [.lit (.bool false)], args := [d] }
  | _ => none }
def FnExactPrimesOfWrongFalsely : Prop := fnExactPrimesOfRow.holds Try.pinned (OpenSpec.ofChange fnExactPrimesOfWrong)

/-- 'laws.FnNots': WHATEVER THE INPUT: true; the input reads as it did. -/
def fnNotsSpec : ChangeSpec := { name := "fnNots", fn := fun _ => fun
  | [d1, d2] => { results := [.lit (.bool true)], args := [d1, d2] }
  | _ => none }
def fnNotsRow : OpenClaim := { program := "ytnolkgfdokijjaa", sum := "609b426ab8adb3f38929108e505eeae476ec4ab5cc632bd52f11cc0380a9c03a", func := "loop.example/g00537/laws.FnNots", spec := "fnNots", unfollowed := true, recurses := true, apart := false }
def FnNotsSaid : Prop := fnNotsRow.holds Try.pinned (OpenSpec.ofChange fnNotsSpec)

/-- ITS FALSE NEIGHBOUR: 'it returns false'. Refute it at one input. -/
def fnNotsWrong : ChangeSpec := { name := "fnNots", fn := fun _ => fun
  | [d1, d2] => { results := [.lit (.bool false)], args := [d1, d2] }
  | _ => none }
def FnNotsWrongFalsely : Prop := fnNotsRow.holds Try.pinned (OpenSpec.ofChange fnNotsWrong)

/-- 'laws.FnPrimes': WHATEVER THE INPUT: true; the input reads as it did. -/
def fnPrimesSpec : ChangeSpec := { name := "fnPrimes", fn := fun _ => fun
  | [d1, d2] => { results := [.lit (.bool true)], args := [d1, d2] }
  | _ => none }
def fnPrimesRow : OpenClaim := { program := "ytnolkgfdokijjaa", sum := "609b426ab8adb3f38929108e505eeae476ec4ab5cc632bd52f11cc0380a9c03a", func := "loop.example/g00537/laws.FnPrimes", spec := "fnPrimes", unfollowed := true, recurses := true, apart := false }
def FnPrimesSaid : Prop := fnPrimesRow.holds Try.pinned (OpenSpec.ofChange fnPrimesSpec)

/-- ITS FALSE NEIGHBOUR: 'it returns false'. Refute it at one input. -/
def fnPrimesWrong : ChangeSpec := { name := "fnPrimes", fn := fun _ => fun
  | [d1, d2] => { results := [.lit (.bool false)], args := [d1, d2] }
  | _ => none }
def FnPrimesWrongFalsely : Prop := fnPrimesRow.holds Try.pinned (OpenSpec.ofChange fnPrimesWrong)

/- THE SECOND FORM. 'bulk': how many values and letters a reading holds, each counted each time it is reached (what is shared counts as often as it is met; a slice's spare places count too). A statement '..UptoSaid' is the law's where the arguments, and the package variables that the reading takes, are together of bulk at most 1048576: NARROWER than '..Said'. Prove '..Said' where nothing that the law and all that it calls make is longer than what came in: it says more and counts as full. Else prove '..UptoSaid'. A law counts once. -/
mutual
def uptoBulk {H : Type} : DataW H → Nat
  | .lit (.string bytes) => bytes.length + 1
  | .lit _ => 1
  | .nil => 1
  | .ptr d => uptoBulk d + 1
  | .slice elems spare => uptoBulkAll elems + uptoBulkAll spare + 1
  | .agg parts => uptoBulkAll parts + 1
  | .iface _ d => uptoBulk d + 1
  | .map entries => uptoBulkEntries entries + 1
  | .held _ => 1
def uptoBulkAll {H : Type} : List (DataW H) → Nat
  | [] => 0
  | d :: r => uptoBulk d + uptoBulkAll r
def uptoBulkEntries {H : Type} : List (Lit × DataW H) → Nat
  | [] => 0
  | x :: r => uptoBulkEntry x + uptoBulkEntries r
def uptoBulkEntry {H : Type} : Lit × DataW H → Nat
  | (.string bytes, d) => bytes.length + uptoBulk d + 1
  | (_, d) => uptoBulk d + 1
 end
def uptoSmall : (H : Type) → List (DataW H) → Bool := fun _ ds => decide (uptoBulkAll ds ≤ 1048576)
def OpenSpec.upto (s : _root_.Go.ChangeSpec) : _root_.Go.OpenSpec := { _root_.Go.OpenSpec.ofChange s with cond := some uptoSmall }

/-- 'laws.FnExactSameQuery', WHERE WHAT IT READS IS OF BULK AT MOST 1048576: true; the input reads as it did. -/
def fnExactSameQueryUptoRow : OpenClaim := { program := "ytnolkgfdokijjaa", sum := "609b426ab8adb3f38929108e505eeae476ec4ab5cc632bd52f11cc0380a9c03a", func := "loop.example/g00537/laws.FnExactSameQuery", spec := "fnExactSameQuery", unfollowed := true, recurses := true, apart := false, narrowed := true }
def FnExactSameQueryUptoSaid : Prop := fnExactSameQueryUptoRow.holds Try.pinned (OpenSpec.upto fnExactSameQuerySpec)

/-- 'laws.FnExactTermsOf', WHERE WHAT IT READS IS OF BULK AT MOST 1048576: true; the input reads as it did. -/
def fnExactTermsOfUptoRow : OpenClaim := { program := "ytnolkgfdokijjaa", sum := "609b426ab8adb3f38929108e505eeae476ec4ab5cc632bd52f11cc0380a9c03a", func := "loop.example/g00537/laws.FnExactTermsOf", spec := "fnExactTermsOf", unfollowed := true, recurses := true, apart := false, narrowed := true }
def FnExactTermsOfUptoSaid : Prop := fnExactTermsOfUptoRow.holds Try.pinned (OpenSpec.upto fnExactTermsOfSpec)

/-- 'laws.FnExactPrimesOf', WHERE WHAT IT READS IS OF BULK AT MOST 1048576: true; the input reads as it did. -/
def fnExactPrimesOfUptoRow : OpenClaim := { program := "ytnolkgfdokijjaa", sum := "609b426ab8adb3f38929108e505eeae476ec4ab5cc632bd52f11cc0380a9c03a", func := "loop.example/g00537/laws.FnExactPrimesOf", spec := "fnExactPrimesOf", unfollowed := true, recurses := true, apart := false, narrowed := true }
def FnExactPrimesOfUptoSaid : Prop := fnExactPrimesOfUptoRow.holds Try.pinned (OpenSpec.upto fnExactPrimesOfSpec)

/-- 'laws.FnNots', WHERE WHAT IT READS IS OF BULK AT MOST 1048576: true; the input reads as it did. -/
def fnNotsUptoRow : OpenClaim := { program := "ytnolkgfdokijjaa", sum := "609b426ab8adb3f38929108e505eeae476ec4ab5cc632bd52f11cc0380a9c03a", func := "loop.example/g00537/laws.FnNots", spec := "fnNots", unfollowed := true, recurses := true, apart := false, narrowed := true }
def FnNotsUptoSaid : Prop := fnNotsUptoRow.holds Try.pinned (OpenSpec.upto fnNotsSpec)

/-- 'laws.FnPrimes', WHERE WHAT IT READS IS OF BULK AT MOST 1048576: true; the input reads as it did. -/
def fnPrimesUptoRow : OpenClaim := { program := "ytnolkgfdokijjaa", sum := "609b426ab8adb3f38929108e505eeae476ec4ab5cc632bd52f11cc0380a9c03a", func := "loop.example/g00537/laws.FnPrimes", spec := "fnPrimes", unfollowed := true, recurses := true, apart := false, narrowed := true }
def FnPrimesUptoSaid : Prop := fnPrimesUptoRow.holds Try.pinned (OpenSpec.upto fnPrimesSpec)

end Rows
end Go.Proofs.Ytnolkgfdokijjaa
