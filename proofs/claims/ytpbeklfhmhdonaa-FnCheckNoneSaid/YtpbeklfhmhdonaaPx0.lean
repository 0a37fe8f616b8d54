-- Written by a program of this session (wip/tools/ownprint.sh, over the kit's printer)
import Derived.Test.YtpbeklfhmhdonaaProg
import Derived.Below
import Derived.Deep.Draws
import Derived.Deep.AppendLies
import Derived.Maps.AppendAt
import Derived.OwnWalk
import Derived.Laws.BytesArg
import Derived.Laws.MakeOwn
import Derived.Laws.OwnMore
import Derived.Deep.OwnRows
import Derived.Tactics
import Derived.Lib.ConvBytes
import Derived.Laws.Slices
import Derived.WalkKit
import Derived.KernelRfl
import Derived.RowKit3
import Derived.Deep.LoopGhost
import Derived.Deep.QuietTactic
import Derived.BigQuiet
import Derived.WideLaws
import Derived.Deep.DeepCutAuto
import Derived.Deep.CutBlock
import Derived.Deep.RegionHeld3
import Derived.Laws.Rows
import Derived.Lib.AppendStr
import Derived.ArgAppend
import Derived.Laws.IdiomCopy
import Derived.OrdersHeld
import Derived.Laws.BitsLemmas
import Derived.RowKit
import Derived.Test.YtpbeklfhmhdonaaWWords
import Derived.Test.YtpbeklfhmhdonaaWLast
import Derived.Test.YtpbeklfhmhdonaaWTab
import Derived.Test.YtpbeklfhmhdonaaWFour
import Derived.Test.YtpbeklfhmhdonaaWQPut
import Derived.Test.YtpbeklfhmhdonaaWApart
import Derived.Test.YtpbeklfhmhdonaaWArr
import Derived.Test.YtpbeklfhmhdonaaWZeros
import Derived.Test.YtpbeklfhmhdonaaWFoot
import Derived.Test.YtpbeklfhmhdonaaWKept
import Derived.Test.YtpbeklfhmhdonaaWShare
import Derived.Test.YtpbeklfhmhdonaaWN
import Derived.Test.YtpbeklfhmhdonaaWFootNe
import Derived.Test.YtpbeklfhmhdonaaWAt
import Derived.Test.YtpbeklfhmhdonaaWEqStruct
import Derived.Test.YtpbeklfhmhdonaaWRepsOne
import Derived.Test.YtpbeklfhmhdonaaWInv
import Derived.Test.YtpbeklfhmhdonaaWInvWords
import Derived.Test.YtpbeklfhmhdonaaWGuard
import Derived.Test.YtpbeklfhmhdonaaWNEv
import Derived.Test.YtpbeklfhmhdonaaWMore
namespace Go.Proofs.Ytpbeklfhmhdonaa.P
open Go.RowKit Go.Proofs.YtpbeklfhmhdonaaW.PrintWords Go.Proofs.YtpbeklfhmhdonaaW.PrintLast Go.Proofs.YtpbeklfhmhdonaaW.PrintMore
attribute [local go_sem] max2_int min2_int max_two min_two max_three min_three max_four min_four   -- for this text's walks alone
set_option linter.unusedVariables false
set_option linter.unusedSimpArgs false



def errW : Option Int → Value
  | none => .nilIface
  | some c => .iface 0 (.int .i64 c)
theorem errW_none : errW none = .nilIface := rfl
theorem errW_some (c : Int) : errW (some c) = .iface 0 (.int .i64 c) := rfl

theorem info3 : (Try.prog.info? 3).map (fun i => (i.zero, i.size, i.bytes)) = some (some (.int .i64 0), 1, 8) := by kernel_rfl
theorem info5 : (Try.prog.info? 5).map (fun i => (i.zero, i.size, i.bytes)) = some (some (.int .u8 0), 1, 1) := by kernel_rfl
-- the values' own types

end Go.Proofs.Ytpbeklfhmhdonaa.P
