/-
  No cell of these rows narrows 'for every input' (looked for: loops, veiled, ifaces, maps, wideKeys, modest, calm, conditions, laid).
  DERIVED. THE GIVEN ROWS OF THIS SEAT. 6 by the template 'for every input the law returns true; each argument reads behind the call as it read before'; 0 by the template 'total and deterministic' (their statements: YtkccinkodbkfdaaTotals.lean).
  GIVEN WITH THE SEED: the statements are not yours to turn. If you find one false, say at which input.
  Laid BY PROGRAM, IN A SANDBOX (cutbox-rows.mjs): the forced cells as the released guide's own fill.sh prints them over the translation d9ce5a7b9d996806… (all of the seat's roots in one cut). By AI agents, Wed Nov 11 2026. No macro, syntax, notation, axiom, sorry.
-/
import Derived.Test.YtkccinkodbkfdaaChecked
import GoSem.Claim
import GoSem.ClaimJoined
import GoSem.ClaimMapViews
import Derived.JoinedTies
import Derived.KernelRfl
namespace Go.Proofs.Ytkccinkodbkfdaa
/- THE CELL 'sum', in the pinned program and in every row, IS THE sha256 OF THE DUMP (.gsa) THAT YtkccinkodbkfdaaProg.lean LOADS. Nothing in Lean hashes anything: it is a label: what it is worth is what the hold of that sum in a sandbox is worth. -/
noncomputable def Try.pinned : Pinned := { name := "ytkccinkodbkfdaa", sum := "d9ce5a7b9d99680646a246eb2cac13036f67ac5a3789231b9c29c1bff3939226", checked := Try.checked }
namespace Rows
def none {H : Type} : Left H := { results := [], args := [] }

/-- 'laws.FnExactGoodQuery': WHATEVER THE INPUT: true; the input reads as it did. -/
def fnExactGoodQuerySpec : ChangeSpec := { name := "fnExactGoodQuery", fn := fun _ => fun
  | [d] => { results := [.lit (.bool true)], args := [d] }
  | _ => none }
def fnExactGoodQueryRow : OpenClaim := { program := "ytkccinkodbkfdaa", sum := "d9ce5a7b9d99680646a246eb2cac13036f67ac5a3789231b9c29c1bff3939226", func := "loop.example/g00537/laws.FnExactGoodQuery", spec := "fnExactGoodQuery", recurses := true, apart := false }
def FnExactGoodQuerySaid : Prop := fnExactGoodQueryRow.holds Try.pinned (OpenSpec.ofChange fnExactGoodQuerySpec)

/-- ITS FALSE NEIGHBOUR: 'it returns false'. Refute it at one input. -/
def fnExactGoodQueryWrong : ChangeSpec := { name := "fnExactGoodQuery", fn := fun _ => fun
  | [d] => { results := [.lit (.bool false)], args := [d] }
  | _ => none }
def FnExactGoodQueryWrongFalsely : Prop := fnExactGoodQueryRow.holds Try.pinned (OpenSpec.ofChange fnExactGoodQueryWrong)

/-- 'laws.FnExactWordsIn': WHATEVER THE INPUT: true; the input reads as it did. -/
def fnExactWordsInSpec : ChangeSpec := { name := "fnExactWordsIn", fn := fun _ => fun
  | [d] => { results := [.lit (.bool true)], args := [d] }
  | _ => none }
def fnExactWordsInRow : OpenClaim := { program := "ytkccinkodbkfdaa", sum := "d9ce5a7b9d99680646a246eb2cac13036f67ac5a3789231b9c29c1bff3939226", func := "loop.example/g00537/laws.FnExactWordsIn", spec := "fnExactWordsIn", recurses := true, apart := false }
def FnExactWordsInSaid : Prop := fnExactWordsInRow.holds Try.pinned (OpenSpec.ofChange fnExactWordsInSpec)

/-- ITS FALSE NEIGHBOUR: 'it returns false'. Refute it at one input. -/
def fnExactWordsInWrong : ChangeSpec := { name := "fnExactWordsIn", fn := fun _ => fun
  | [d] => { results := [.lit (.bool false)], args := [d] }
  | _ => none }
def FnExactWordsInWrongFalsely : Prop := fnExactWordsInRow.holds Try.pinned (OpenSpec.ofChange fnExactWordsInWrong)

/-- 'laws.FnExactHoldsFor': WHATEVER THE INPUT: true; the input reads as it did. -/
def fnExactHoldsForSpec : ChangeSpec := { name := "fnExactHoldsFor", fn := fun _ => fun
  | [d1, d2] => { results := [.lit (.bool true)], args := [d1, d2] }
  | _ => none }
def fnExactHoldsForRow : OpenClaim := { program := "ytkccinkodbkfdaa", sum := "d9ce5a7b9d99680646a246eb2cac13036f67ac5a3789231b9c29c1bff3939226", func := "loop.example/g00537/laws.FnExactHoldsFor", spec := "fnExactHoldsFor", recurses := true, apart := false }
def FnExactHoldsForSaid : Prop := fnExactHoldsForRow.holds Try.pinned (OpenSpec.ofChange fnExactHoldsForSpec)

/-- ITS FALSE NEIGHBOUR: 'it returns false'. Refute it at one input. -/
def fnExactHoldsForWrong : ChangeSpec := { name := "fnExactHoldsFor", fn := fun _ => fun
  | [d1, d2] => { results := [.lit (.bool false)], args := [d1, d2] }
  | _ => none }
def FnExactHoldsForWrongFalsely : Prop := fnExactHoldsForRow.holds Try.pinned (OpenSpec.ofChange fnExactHoldsForWrong)

/-- 'laws.FnExactInwardNots': WHATEVER THE INPUT: true; the input reads as it did. -/
def fnExactInwardNotsSpec : ChangeSpec := { name := "fnExactInwardNots", fn := fun _ => fun
  | [d] => { results := [.lit (.bool true)], args := [d] }
  | _ => none }
def fnExactInwardNotsRow : OpenClaim := { program := "ytkccinkodbkfdaa", sum := "d9ce5a7b9d99680646a246eb2cac13036f67ac5a3789231b9c29c1bff3939226", func := "loop.example/g00537/laws.FnExactInwardNots", spec := "fnExactInwardNots", recurses := true, apart := false }
def FnExactInwardNotsSaid : Prop := fnExactInwardNotsRow.holds Try.pinned (OpenSpec.ofChange fnExactInwardNotsSpec)

/-- ITS FALSE NEIGHBOUR: 'it returns false'. Refute it at one input. -/
def fnExactInwardNotsWrong : ChangeSpec := { name := "fnExactInwardNots", fn := fun _ => fun
  | [d] => { results := [.lit (.bool false)], args := [d] }
  | _ => none }
def FnExactInwardNotsWrongFalsely : Prop := fnExactInwardNotsRow.holds Try.pinned (OpenSpec.ofChange fnExactInwardNotsWrong)

/-- 'laws.FnExactSameQuery': WHATEVER THE INPUT: true; the input reads as it did. -/
def fnExactSameQuerySpec : ChangeSpec := { name := "fnExactSameQuery", fn := fun _ => fun
  | [d1, d2] => { results := [.lit (.bool true)], args := [d1, d2] }
  | _ => none }
def fnExactSameQueryRow : OpenClaim := { program := "ytkccinkodbkfdaa", sum := "d9ce5a7b9d99680646a246eb2cac13036f67ac5a3789231b9c29c1bff3939226", func := "loop.example/g00537/laws.FnExactSameQuery", spec := "fnExactSameQuery", unfollowed := true, recurses := true, apart := false }
def FnExactSameQuerySaid : Prop := fnExactSameQueryRow.holds Try.pinned (OpenSpec.ofChange fnExactSameQuerySpec)

/-- ITS FALSE NEIGHBOUR: 'it returns false'. Refute it at one input. -/
def fnExactSameQueryWrong : ChangeSpec := { name := "fnExactSameQuery", fn := fun _ => fun
  | [d1, d2] => { results := [.lit (.bool false)], args := [d1, d2] }
  | _ => none }
def FnExactSameQueryWrongFalsely : Prop := fnExactSameQueryRow.holds Try.pinned (OpenSpec.ofChange fnExactSameQueryWrong)

/-- 'laws.FnExactTermsOf': WHATEVER THE INPUT: true; the input reads as it did. -/
def fnExactTermsOfSpec : ChangeSpec := { name := "fnExactTermsOf", fn := fun _ => fun
  | [d] => { results := [.lit (.bool true)], args := [d] }
  | _ => none }
def fnExactTermsOfRow : OpenClaim := { program := "ytkccinkodbkfdaa", sum := "d9ce5a7b9d99680646a246eb2cac13036f67ac5a3789231b9c29c1bff3939226", func := "loop.example/g00537/laws.FnExactTermsOf", spec := "fnExactTermsOf", unfollowed := true, recurses := true, apart := false }
def FnExactTermsOfSaid : Prop := fnExactTermsOfRow.holds Try.pinned (OpenSpec.ofChange fnExactTermsOfSpec)

/-- ITS FALSE NEIGHBOUR: 'it returns false'. Refute it at one input. -/
def fnExactTermsOfWrong : ChangeSpec := { name := "fnExactTermsOf", fn := fun _ => fun
  | [d] => { results := [.lit (.bool false)], args := [d] }
  | _ => none }
def FnExactTermsOfWrongFalsely : Prop := fnExactTermsOfRow.holds Try.pinned (OpenSpec.ofChange fnExactTermsOfWrong)

/- THE SECOND FORM. 'bulk': how many values and letters a reading holds, each counted each time it is reached (what is shared counts as often as it is met; a slice's spare places count too). A statement '..UptoSaid' is the law's where the arguments, and the package variables that the reading takes, are together of bulk at most 1048576: NARROWER than '..Said'. Prove '..Said' where nothing that the law and all that it calls make is longer than what came in: it says more and counts as full. Else prove '..UptoSaid'. A law counts once. -/
mutual
def uptoBulk {H : Type} : DataW H → Nat
  | .lit (.string bytes) => bytes.length + 1
  | .lit _ => 1
  | .nil => 1
  | .ptr d => uptoBulk d + 1
  | .slice elems spare => uptoBulkAll elems + uptoBulkAll spare + 1
  | .agg parts => uptoBulkAll parts + 1
  | .iface _ d => uptoBulk d + 1
  | .map entries => uptoBulkEntries entries + 1
  | .held _ => 1
def uptoBulkAll {H : Type} : List (DataW H) → Nat
  | [] => 0
  | d :: r => uptoBulk d + uptoBulkAll r
def uptoBulkEntries {H : Type} : List (Lit × DataW H) → Nat
  | [] => 0
  | x :: r => uptoBulkEntry x + uptoBulkEntries r
def uptoBulkEntry {H : Type} : Lit × DataW H → Nat
  | (.string bytes, d) => bytes.length + uptoBulk d + 1
  | (_, d) => uptoBulk d + 1
 end
def uptoSmall : (H : Type) → List (DataW H) → Bool := fun _ ds => decide (uptoBulkAll ds ≤ 1048576)
def OpenSpec.upto (s : _root_.Go.ChangeSpec) : _root_.Go.OpenSpec := { _root_.Go.OpenSpec.ofChange s with cond := some uptoSmall }

/-- 'laws.FnExactGoodQuery', WHERE WHAT IT READS IS OF BULK AT MOST 1048576: true; the input reads as it did. -/
def fnExactGoodQueryUptoRow : OpenClaim := { program := "ytkccinkodbkfdaa", sum := "d9ce5a7b9d99680646a246eb2cac13036f67ac5a3789231b9c29c1bff3939226", func := "loop.example/g00537/laws.FnExactGoodQuery", spec := "fnExactGoodQuery", recurses := true, apart := false, narrowed := true }
def FnExactGoodQueryUptoSaid : Prop := fnExactGoodQueryUptoRow.holds Try.pinned (OpenSpec.upto fnExactGoodQuerySpec)

/-- 'laws.FnExactWordsIn', WHERE WHAT IT READS IS OF BULK AT MOST 1048576: true; the input reads as it did. -/
def fnExactWordsInUptoRow : OpenClaim := { program := "ytkccinkodbkfdaa", sum := "d9ce5a7b9d99680646a246eb2cac13036f67ac5a3789231b9c29c1bff3939226", func := "loop.example/g00537/laws.FnExactWordsIn", spec := "fnExactWordsIn", recurses := true, apart := false, narrowed := true }
def FnExactWordsInUptoSaid : Prop := fnExactWordsInUptoRow.holds Try.pinned (OpenSpec.upto fnExactWordsInSpec)

/-- 'laws.FnExactHoldsFor', WHERE WHAT IT READS IS OF BULK AT MOST 1048576: true; the input reads as it did. -/
def fnExactHoldsForUptoRow : OpenClaim := { program := "ytkccinkodbkfdaa", sum := "d9ce5a7b9d99680646a246eb2cac13036f67ac5a3789231b9c29c1bff3939226", func := "loop.example/g00537/laws.FnExactHoldsFor", spec := "fnExactHoldsFor", recurses := true, apart := false, narrowed := true }
def FnExactHoldsForUptoSaid : Prop := fnExactHoldsForUptoRow.holds Try.pinned (OpenSpec.upto fnExactHoldsForSpec)

/-- 'laws.FnExactInwardNots', WHERE WHAT IT READS IS OF BULK AT MOST 1048576: true; the input reads as it did. -/
def fnExactInwardNotsUptoRow : OpenClaim := { program := "ytkccinkodbkfdaa", sum := "d9ce5a7b9d99680646a246eb2cac13036f67ac5a3789231b9c29c1bff3939226", func := "loop.example/g00537/laws.FnExactInwardNots", spec := "fnExactInwardNots", recurses := true, apart := false, narrowed := true }
def FnExactInwardNotsUptoSaid : Prop := fnExactInwardNotsUptoRow.holds Try.pinned (OpenSpec.upto fnExactInwardNotsSpec)

/-- 'laws.FnExactSameQuery', WHERE WHAT IT READS IS OF BULK AT MOST 1048576: true; the input reads as it did. -/
def fnExactSameQueryUptoRow : OpenClaim := { program := "ytkccinkodbkfdaa", sum := "d9ce5a7b9d99680646a246eb2cac13036f67ac5a3789231b9c29c1bff3939226", func := "loop.example/g00537/laws.FnExactSameQuery", spec := "fnExactSameQuery", unfollowed := true, recurses := true, apart := false, narrowed := true }
def FnExactSameQueryUptoSaid : Prop := fnExactSameQueryUptoRow.holds Try.pinned (OpenSpec.upto fnExactSameQuerySpec)

/-- 'laws.FnExactTermsOf', WHERE WHAT IT READS IS OF BULK AT MOST 1048576: true; the input reads as it did. -/
def fnExactTermsOfUptoRow : OpenClaim := { program := "ytkccinkodbkfdaa", sum := "d9ce5a7b9d99680646a246eb2cac13036f67ac5a3789231b9c29c1bff3939226", func := "loop.example/g00537/laws.FnExactTermsOf", spec := "fnExactTermsOf", unfollowed := true, recurses := true, apart := false, narrowed := true }
def FnExactTermsOfUptoSaid : Prop := fnExactTermsOfUptoRow.holds Try.pinned (OpenSpec.upto fnExactTermsOfSpec)

end Rows
end Go.Proofs.Ytkccinkodbkfdaa
