/- This session's own words for walks by hand: rows of rows, taken apart and put together; predicates that answer or not. No conditions. -/
import Derived.Test.YtabfkalcjfjkiaaExtG
import Derived.Test.YtabfkalcjfjkiaaExtE
namespace Go.Proofs.Ytabfkalcjfjkiaa.Ext
open Go.RowKit Go.Proofs.YtabfkalcjfjkiaaW.PrintWords
set_option linter.unusedSimpArgs false
set_option linter.unusedVariables false
section
variable {α : Type} {d : Kd α} {e base : Nat} {w : World} {v : Value} {ok : Nat → Prop}
end
end Go.Proofs.Ytabfkalcjfjkiaa.Ext
