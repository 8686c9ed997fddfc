/- Two strictly rising lists put together: one by one, and by sorting all and taking neighbours but once: the same, or both refuse. No conditions. -/
import Derived.Test.YtabfkalcjfjkiaaStable
namespace Go.Proofs.Ytabfkalcjfjkiaa.Merge
open Go.Proofs.Ytabfkalcjfjkiaa.Stable
set_option linter.unusedSimpArgs false
set_option linter.unusedVariables false
set_option linter.unusedSectionVars false
variable {α : Type} [DecidableEq α]
def compFrom (p : α) : List α → List α
 | [] => []
 | y :: l => if y = p then compFrom p l else y :: compFrom y l
def Strict (lt : α → α → Bool) (l : List α) : Prop := l.Pairwise fun x y => lt x y = true
/-- One put in its place; none where another one is there. -/
def put (lt : α → α → Bool) (x : α) : List α → Option (List α)
 | [] => some [x]
 | y :: l => if lt y x = true then (put lt x l).map (y :: ·) else if lt x y = true then some (x :: y :: l) else if y = x then some (y :: l) else none
variable {lt : α → α → Bool}
end Go.Proofs.Ytabfkalcjfjkiaa.Merge
