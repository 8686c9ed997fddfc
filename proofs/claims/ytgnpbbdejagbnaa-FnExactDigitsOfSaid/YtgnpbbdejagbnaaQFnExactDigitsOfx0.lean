-- Written by this session's own program (wip/pp_patch.py, wip/pp.sh) out of the given translation. Not trusted: Lean checks it.
import Derived.Test.YtgnpbbdejagbnaaProg
import Derived.Below
import Derived.Deep.Draws
import Derived.Deep.AppendLies
import Derived.Maps.AppendAt
import Derived.OwnWalk
import Derived.Laws.BytesArg
import Derived.Laws.MakeOwn
import Derived.Laws.OwnMore
import Derived.Deep.OwnRows
import Derived.Tactics
import Derived.Lib.ConvBytes
import Derived.Laws.Slices
import Derived.WalkKit
import Derived.KernelRfl
import Derived.RowKit3
import Derived.Deep.LoopGhost
import Derived.Deep.QuietTactic
import Derived.BigQuiet
import Derived.WideLaws
import Derived.Deep.DeepCutAuto
import Derived.Deep.CutBlock
import Derived.Deep.RegionHeld3
import Derived.Laws.Rows
import Derived.Lib.AppendStr
import Derived.ArgAppend
import Derived.Laws.IdiomCopy
import Derived.OrdersHeld
import Derived.Laws.BitsLemmas
import Derived.RowKit
import Derived.Test.YtgnpbbdejagbnaaExt
import Derived.Test.YtgnpbbdejagbnaaExtB
import Derived.Test.YtgnpbbdejagbnaaWWords
import Derived.Test.YtgnpbbdejagbnaaWLast
import Derived.Test.YtgnpbbdejagbnaaWTab
import Derived.Test.YtgnpbbdejagbnaaWFour
import Derived.Test.YtgnpbbdejagbnaaWQPut
import Derived.Test.YtgnpbbdejagbnaaWApart
import Derived.Test.YtgnpbbdejagbnaaWArr
import Derived.Test.YtgnpbbdejagbnaaWZeros
import Derived.Test.YtgnpbbdejagbnaaWFoot
import Derived.Test.YtgnpbbdejagbnaaWKept
import Derived.Test.YtgnpbbdejagbnaaWShare
import Derived.Test.YtgnpbbdejagbnaaWN
import Derived.Test.YtgnpbbdejagbnaaWFootNe
import Derived.Test.YtgnpbbdejagbnaaWAt
import Derived.Test.YtgnpbbdejagbnaaWEqStruct
import Derived.Test.YtgnpbbdejagbnaaWRepsOne
import Derived.Test.YtgnpbbdejagbnaaWInv
import Derived.Test.YtgnpbbdejagbnaaWInvWords
import Derived.Test.YtgnpbbdejagbnaaWGuard
import Derived.Test.YtgnpbbdejagbnaaWNEv
import Derived.Test.YtgnpbbdejagbnaaWMore
namespace Go.Proofs.Ytgnpbbdejagbnaa.QFnExactDigitsOf
open Go.RowKit Go.Proofs.YtgnpbbdejagbnaaW.PrintWords Go.Proofs.YtgnpbbdejagbnaaW.PrintLast Go.Proofs.YtgnpbbdejagbnaaW.PrintMore
attribute [local go_sem] max2_int min2_int max_two min_two max_three min_three max_four min_four   -- for this text's walks alone
open Go.Proofs.Ytgnpbbdejagbnaa.Ext
attribute [local go_sem high] ext_gtr ext_leq
set_option linter.unusedVariables false
set_option linter.unusedSimpArgs false



def errW : Option Int → Value
  | none => .nilIface
  | some c => .iface 0 (.int .i64 c)
theorem errW_none : errW none = .nilIface := rfl
theorem errW_some (c : Int) : errW (some c) = .iface 0 (.int .i64 c) := rfl

theorem info3 : (Try.prog.info? 3).map (fun i => (i.zero, i.size, i.bytes)) = some (some (.int .i64 0), 1, 8) := by kernel_rfl
theorem info5 : (Try.prog.info? 5).map (fun i => (i.zero, i.size, i.bytes)) = some (some (.int .u8 0), 1, 1) := by kernel_rfl
-- the values' own types

end Go.Proofs.Ytgnpbbdejagbnaa.QFnExactDigitsOf
