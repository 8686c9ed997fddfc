-- Out of the text that print.sh wrote for this seat, by this session's own program (wip/trim.py): what this law does not use is struck. Not trusted: Lean checks it.
import Derived.Test.YtpfjlnfgekeobaaWWords
/-! ### 58. A guarded operation whose guard is known to want it: the same goal without the guard -/
namespace Go.Proofs.YtpfjlnfgekeobaaW.PrintWords
open Go.RowKit
section
variable {P : Program} {ops : Array Oper} {rest : List Oper} {o : Oper} {a : Act} {Q : Exit → Act → World → Prop} {W : World}
end
end Go.Proofs.YtpfjlnfgekeobaaW.PrintWords
