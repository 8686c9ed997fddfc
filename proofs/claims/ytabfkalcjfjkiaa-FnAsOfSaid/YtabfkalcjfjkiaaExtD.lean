/- This session's own words for printed walks, the fourth lot: slices.Grow of a nil slice, by the library's contract. No conditions. -/
import Derived.Test.YtabfkalcjfjkiaaExtB
import Derived.Test.YtabfkalcjfjkiaaWKept
import Derived.Shelf.Spec.SlicesGrow
namespace Go.Proofs.Ytabfkalcjfjkiaa.Ext
open Go.Shelf Go.RowKit Go.Proofs.YtabfkalcjfjkiaaW.PrintWords
set_option linter.unusedSimpArgs false
set_option linter.unusedVariables false
variable {P : Program} {ρ : Ren}
end Go.Proofs.Ytabfkalcjfjkiaa.Ext
