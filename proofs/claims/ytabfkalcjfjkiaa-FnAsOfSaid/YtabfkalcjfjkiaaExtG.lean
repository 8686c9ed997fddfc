/- This session's own words for walks by hand: rows of the call's own that lie in intervals of blocks. No conditions. -/
import Derived.Test.YtabfkalcjfjkiaaExtB
import Derived.Test.YtabfkalcjfjkiaaWKept
import Derived.Test.YtabfkalcjfjkiaaWMore
import Derived.Test.YtabfkalcjfjkiaaWShare
import Derived.Test.YtabfkalcjfjkiaaWN
namespace Go.Proofs.Ytabfkalcjfjkiaa.Ext
open Go.RowKit Go.Proofs.YtabfkalcjfjkiaaW.PrintWords
set_option linter.unusedSimpArgs false
set_option linter.unusedVariables false
section
variable {α : Type} {d : Kd α} {e base b : Nat} {W W' : World} {v : Value} {xs ys : List α} {lo hi lo2 hi2 : Nat}
end
end Go.Proofs.Ytabfkalcjfjkiaa.Ext
