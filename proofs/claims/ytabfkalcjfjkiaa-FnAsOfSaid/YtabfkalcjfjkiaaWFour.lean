-- Out of the text that print.sh wrote for this seat, by this session's own program (wip/trim.py): what this law does not use is struck. Not trusted: Lean checks it.
import Derived.Test.YtabfkalcjfjkiaaWTab
/-! ### 56. Four, five, six operations that may come up next, in any order -/
namespace Go.Proofs.YtabfkalcjfjkiaaW.PrintLast
section
variable {P : Program} {ops : Array Oper} {Q : Exit → Act → World → Prop} {md : Region.Mode} {S : World → Prop} {ds : List Nat} {T : Bool × List (List Nat × List Nat)}
end
end Go.Proofs.YtabfkalcjfjkiaaW.PrintLast
