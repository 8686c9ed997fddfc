-- Written by this session's own program (wip/pp_patch.py, wip/pp.sh) out of the given translation. Not trusted: Lean checks it.
import Derived.Test.YtkijaolkfkgneaaQFnExactThresholdx0
namespace Go.Proofs.Ytkijaolkfkgneaa.QFnExactThreshold
open Go.RowKit Go.Proofs.YtkijaolkfkgneaaW.PrintWords Go.Proofs.YtkijaolkfkgneaaW.PrintLast Go.Proofs.YtkijaolkfkgneaaW.PrintMore
attribute [local go_sem] max2_int min2_int max_two min_two max_three min_three max_four min_four   -- for this text's walks alone
open Go.Proofs.Ytkijaolkfkgneaa.Ext
attribute [local go_sem high] ext_gtr ext_leq
set_option linter.unusedVariables false
set_option linter.unusedSimpArgs false

-- NOT PRINTED: function 6 (laws_FnExactThreshold)

end Go.Proofs.Ytkijaolkfkgneaa.QFnExactThreshold
