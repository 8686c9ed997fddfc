-- Written by this session's own program (wip/pp_patch.py, wip/pp.sh) out of the given translation. Not trusted: Lean checks it.
import Derived.Test.YtbdfeiohpbbgoaaProg
import Derived.Below
import Derived.Deep.Draws
import Derived.Deep.AppendLies
import Derived.Maps.AppendAt
import Derived.OwnWalk
import Derived.Laws.BytesArg
import Derived.Laws.MakeOwn
import Derived.Laws.OwnMore
import Derived.Deep.OwnRows
import Derived.Tactics
import Derived.Lib.ConvBytes
import Derived.Laws.Slices
import Derived.WalkKit
import Derived.KernelRfl
import Derived.RowKit3
import Derived.Deep.LoopGhost
import Derived.Deep.QuietTactic
import Derived.BigQuiet
import Derived.WideLaws
import Derived.Deep.DeepCutAuto
import Derived.Deep.CutBlock
import Derived.Deep.RegionHeld3
import Derived.Laws.Rows
import Derived.Lib.AppendStr
import Derived.ArgAppend
import Derived.Laws.IdiomCopy
import Derived.OrdersHeld
import Derived.Laws.BitsLemmas
import Derived.RowKit
import Derived.Test.YtbdfeiohpbbgoaaExt
import Derived.Test.YtbdfeiohpbbgoaaWWords
import Derived.Test.YtbdfeiohpbbgoaaWLast
import Derived.Test.YtbdfeiohpbbgoaaWTab
import Derived.Test.YtbdfeiohpbbgoaaWFour
import Derived.Test.YtbdfeiohpbbgoaaWQPut
import Derived.Test.YtbdfeiohpbbgoaaWApart
import Derived.Test.YtbdfeiohpbbgoaaWArr
import Derived.Test.YtbdfeiohpbbgoaaWZeros
import Derived.Test.YtbdfeiohpbbgoaaWFoot
import Derived.Test.YtbdfeiohpbbgoaaWKept
import Derived.Test.YtbdfeiohpbbgoaaWShare
import Derived.Test.YtbdfeiohpbbgoaaWN
import Derived.Test.YtbdfeiohpbbgoaaWFootNe
import Derived.Test.YtbdfeiohpbbgoaaWAt
import Derived.Test.YtbdfeiohpbbgoaaWEqStruct
import Derived.Test.YtbdfeiohpbbgoaaWRepsOne
import Derived.Test.YtbdfeiohpbbgoaaWInv
import Derived.Test.YtbdfeiohpbbgoaaWInvWords
import Derived.Test.YtbdfeiohpbbgoaaWGuard
import Derived.Test.YtbdfeiohpbbgoaaWNEv
import Derived.Test.YtbdfeiohpbbgoaaWMore
namespace Go.Proofs.Ytbdfeiohpbbgoaa.QFnExactFarOf
open Go.RowKit Go.Proofs.YtbdfeiohpbbgoaaW.PrintWords Go.Proofs.YtbdfeiohpbbgoaaW.PrintLast Go.Proofs.YtbdfeiohpbbgoaaW.PrintMore
attribute [local go_sem] max2_int min2_int max_two min_two max_three min_three max_four min_four   -- for this text's walks alone
open Go.Proofs.Ytbdfeiohpbbgoaa.Ext
attribute [local go_sem high] ext_gtr ext_leq
set_option linter.unusedVariables false
set_option linter.unusedSimpArgs false



def errW : Option Int → Value
  | none => .nilIface
  | some c => .iface 0 (.int .i64 c)
theorem errW_none : errW none = .nilIface := rfl
theorem errW_some (c : Int) : errW (some c) = .iface 0 (.int .i64 c) := rfl

theorem info3 : (Try.prog.info? 3).map (fun i => (i.zero, i.size, i.bytes)) = some (some (.int .i64 0), 1, 8) := by kernel_rfl
-- the values' own types

end Go.Proofs.Ytbdfeiohpbbgoaa.QFnExactFarOf
