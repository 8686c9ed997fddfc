-- Written by this session's own program (wip/pp_patch.py, wip/pp.sh) out of the given translation. Not trusted: Lean checks it.
import Derived.Test.YtngblojmiicclaaProg
import Derived.Below
import Derived.Deep.Draws
import Derived.Deep.AppendLies
import Derived.Maps.AppendAt
import Derived.OwnWalk
import Derived.Laws.BytesArg
import Derived.Laws.MakeOwn
import Derived.Laws.OwnMore
import Derived.Deep.OwnRows
import Derived.Tactics
import Derived.Lib.ConvBytes
import Derived.Laws.Slices
import Derived.WalkKit
import Derived.KernelRfl
import Derived.RowKit3
import Derived.Deep.LoopGhost
import Derived.Deep.QuietTactic
import Derived.BigQuiet
import Derived.WideLaws
import Derived.Deep.DeepCutAuto
import Derived.Deep.CutBlock
import Derived.Deep.RegionHeld3
import Derived.Laws.Rows
import Derived.Lib.AppendStr
import Derived.ArgAppend
import Derived.Laws.IdiomCopy
import Derived.OrdersHeld
import Derived.Laws.BitsLemmas
import Derived.RowKit
import Derived.Test.YtngblojmiicclaaExt
import Derived.Test.YtngblojmiicclaaWWords
import Derived.Test.YtngblojmiicclaaWLast
import Derived.Test.YtngblojmiicclaaWTab
import Derived.Test.YtngblojmiicclaaWFour
import Derived.Test.YtngblojmiicclaaWQPut
import Derived.Test.YtngblojmiicclaaWApart
import Derived.Test.YtngblojmiicclaaWArr
import Derived.Test.YtngblojmiicclaaWZeros
import Derived.Test.YtngblojmiicclaaWFoot
import Derived.Test.YtngblojmiicclaaWKept
import Derived.Test.YtngblojmiicclaaWShare
import Derived.Test.YtngblojmiicclaaWN
import Derived.Test.YtngblojmiicclaaWFootNe
import Derived.Test.YtngblojmiicclaaWAt
import Derived.Test.YtngblojmiicclaaWEqStruct
import Derived.Test.YtngblojmiicclaaWRepsOne
import Derived.Test.YtngblojmiicclaaWInv
import Derived.Test.YtngblojmiicclaaWInvWords
import Derived.Test.YtngblojmiicclaaWGuard
import Derived.Test.YtngblojmiicclaaWNEv
import Derived.Test.YtngblojmiicclaaWMore
namespace Go.Proofs.Ytngblojmiicclaa.QFnExactReadBlock
open Go.RowKit Go.Proofs.YtngblojmiicclaaW.PrintWords Go.Proofs.YtngblojmiicclaaW.PrintLast Go.Proofs.YtngblojmiicclaaW.PrintMore
attribute [local go_sem] max2_int min2_int max_two min_two max_three min_three max_four min_four   -- for this text's walks alone
open Go.Proofs.Ytngblojmiicclaa.Ext
attribute [local go_sem high] ext_gtr ext_leq
set_option linter.unusedVariables false
set_option linter.unusedSimpArgs false



def errW : Option Int → Value
  | none => .nilIface
  | some c => .iface 0 (.int .i64 c)
theorem errW_none : errW none = .nilIface := rfl
theorem errW_some (c : Int) : errW (some c) = .iface 0 (.int .i64 c) := rfl

theorem info5 : (Try.prog.info? 5).map (fun i => (i.zero, i.size, i.bytes)) = some (some (.int .u8 0), 1, 1) := by kernel_rfl
theorem info9 : (Try.prog.info? 9).map (fun i => (i.zero, i.size, i.bytes)) = some (some (.string ⟨#[]⟩), 1, 16) := by kernel_rfl
-- the values' own types

end Go.Proofs.Ytngblojmiicclaa.QFnExactReadBlock
