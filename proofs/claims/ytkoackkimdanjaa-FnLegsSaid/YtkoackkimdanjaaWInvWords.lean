-- Out of the text that print.sh wrote for this seat, by this session's own program (wip/trim.py): what this law does not use is struck. Not trusted: Lean checks it.
import Derived.Test.YtkoackkimdanjaaWInv
import Derived.Test.YtkoackkimdanjaaWFootNe
namespace Go.Proofs.YtkoackkimdanjaaW.PrintWords
open Go.RowKit
end Go.Proofs.YtkoackkimdanjaaW.PrintWords
namespace Go.Proofs.YtkoackkimdanjaaW.PrintLast
section
variable {ops : Array Oper} {a : Act} {o og : Oper} {g : Nat} {t : Tmp} {u : Bool}
end
end Go.Proofs.YtkoackkimdanjaaW.PrintLast
