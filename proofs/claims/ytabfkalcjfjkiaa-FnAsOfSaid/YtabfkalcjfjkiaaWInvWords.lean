-- Out of the text that print.sh wrote for this seat, by this session's own program (wip/trim.py): what this law does not use is struck. Not trusted: Lean checks it.
import Derived.Test.YtabfkalcjfjkiaaWInv
import Derived.Test.YtabfkalcjfjkiaaWFootNe
namespace Go.Proofs.YtabfkalcjfjkiaaW.PrintWords
open Go.RowKit
end Go.Proofs.YtabfkalcjfjkiaaW.PrintWords
namespace Go.Proofs.YtabfkalcjfjkiaaW.PrintLast
section
variable {ops : Array Oper} {a : Act} {o og : Oper} {g : Nat} {t : Tmp} {u : Bool}
end
end Go.Proofs.YtabfkalcjfjkiaaW.PrintLast
