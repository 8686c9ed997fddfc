/- This session's own words for printed walks, the second lot: []byte(s); no conditions. -/
import Derived.Test.YtabfkalcjfjkiaaWMore
import Derived.Test.YtabfkalcjfjkiaaWShare
import Derived.Lib.ConvBytes
import Derived.Sort.Row
import Derived.Lib.Small
import Derived.Lib.BitFns
namespace Go.Proofs.Ytabfkalcjfjkiaa.Ext
open Go.RowKit Go.Proofs.YtabfkalcjfjkiaaW.PrintWords Go.Proofs.YtabfkalcjfjkiaaW.PrintLast Go.Proofs.YtabfkalcjfjkiaaW.PrintMore
set_option linter.unusedSimpArgs false
set_option linter.unusedVariables false

end Go.Proofs.Ytabfkalcjfjkiaa.Ext
