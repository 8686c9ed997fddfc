-- Out of the text that print.sh wrote for this seat, by this session's own program (wip/trim.py): what this law does not use is struck. Not trusted: Lean checks it.
import Derived.Test.YtkoackkimdanjaaWWords
import Derived.Laws.StructEq
/-! ### 53. '==' of structs as_ one Bool -/
namespace Go.Proofs.YtkoackkimdanjaaW.PrintWords
open Go.RowKit
section
variable {P : Program} {d : Nat} {xs ys : Array Value} {f : Field} {fs : List Field} {a b : Value} {r s : Bool} {w : World}
end
end Go.Proofs.YtkoackkimdanjaaW.PrintWords
