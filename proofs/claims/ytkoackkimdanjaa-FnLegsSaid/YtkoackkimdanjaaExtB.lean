/- This session's own words for printed walks, the second lot: []byte(s); no conditions. -/
import Derived.Test.YtkoackkimdanjaaWMore
import Derived.Test.YtkoackkimdanjaaWShare
import Derived.Lib.ConvBytes
import Derived.Sort.Row
import Derived.Lib.Small
import Derived.Lib.BitFns
namespace Go.Proofs.Ytkoackkimdanjaa.Ext
open Go.RowKit Go.Proofs.YtkoackkimdanjaaW.PrintWords Go.Proofs.YtkoackkimdanjaaW.PrintLast Go.Proofs.YtkoackkimdanjaaW.PrintMore
set_option linter.unusedSimpArgs false
set_option linter.unusedVariables false

end Go.Proofs.Ytkoackkimdanjaa.Ext
