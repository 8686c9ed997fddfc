/- This session's own words for printed walks, the second lot: []byte(s); no conditions. -/
import Derived.Test.YtpfjlnfgekeobaaWMore
import Derived.Test.YtpfjlnfgekeobaaWShare
import Derived.Lib.ConvBytes
import Derived.Sort.Row
import Derived.Lib.Small
import Derived.Lib.BitFns
namespace Go.Proofs.Ytpfjlnfgekeobaa.Ext
open Go.RowKit Go.Proofs.YtpfjlnfgekeobaaW.PrintWords Go.Proofs.YtpfjlnfgekeobaaW.PrintLast Go.Proofs.YtpfjlnfgekeobaaW.PrintMore
set_option linter.unusedSimpArgs false
set_option linter.unusedVariables false

end Go.Proofs.Ytpfjlnfgekeobaa.Ext
