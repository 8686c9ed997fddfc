-- Out of the text that print.sh wrote for this seat, by this session's own program (wip/trim.py): what this law does not use is struck. Not trusted: Lean checks it.
import Derived.Test.YtpfjlnfgekeobaaWInv
import Derived.Test.YtpfjlnfgekeobaaWFootNe
namespace Go.Proofs.YtpfjlnfgekeobaaW.PrintWords
open Go.RowKit
end Go.Proofs.YtpfjlnfgekeobaaW.PrintWords
namespace Go.Proofs.YtpfjlnfgekeobaaW.PrintLast
section
variable {ops : Array Oper} {a : Act} {o og : Oper} {g : Nat} {t : Tmp} {u : Bool}
end
end Go.Proofs.YtpfjlnfgekeobaaW.PrintLast
