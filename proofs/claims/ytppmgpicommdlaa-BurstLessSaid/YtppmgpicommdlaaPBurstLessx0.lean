-- PRINTED BY print.sh 35421559b90ae4d0a3588c463048766b98c2df88dd9212a6774a882060cdf62d: not written by this session
import Derived.Test.YtppmgpicommdlaaProg
import Derived.Below
import Derived.Deep.Draws
import Derived.Deep.AppendLies
import Derived.Maps.AppendAt
import Derived.OwnWalk
import Derived.Laws.BytesArg
import Derived.Laws.MakeOwn
import Derived.Laws.OwnMore
import Derived.Deep.OwnRows
import Derived.Tactics
import Derived.Lib.ConvBytes
import Derived.Laws.Slices
import Derived.WalkKit
import Derived.KernelRfl
import Derived.RowKit3
import Derived.Deep.LoopGhost
import Derived.Deep.QuietTactic
import Derived.BigQuiet
import Derived.WideLaws
import Derived.Deep.DeepCutAuto
import Derived.Deep.CutBlock
import Derived.Deep.RegionHeld3
import Derived.Laws.Rows
import Derived.Lib.AppendStr
import Derived.ArgAppend
import Derived.Laws.IdiomCopy
import Derived.OrdersHeld
import Derived.Laws.BitsLemmas
import Derived.RowKit
import Derived.Test.YtppmgpicommdlaaWWords
import Derived.Test.YtppmgpicommdlaaWLast
import Derived.Test.YtppmgpicommdlaaWTab
import Derived.Test.YtppmgpicommdlaaWFour
import Derived.Test.YtppmgpicommdlaaWQPut
import Derived.Test.YtppmgpicommdlaaWApart
import Derived.Test.YtppmgpicommdlaaWArr
import Derived.Test.YtppmgpicommdlaaWZeros
import Derived.Test.YtppmgpicommdlaaWFoot
import Derived.Test.YtppmgpicommdlaaWKept
import Derived.Test.YtppmgpicommdlaaWShare
import Derived.Test.YtppmgpicommdlaaWN
import Derived.Test.YtppmgpicommdlaaWFootNe
import Derived.Test.YtppmgpicommdlaaWAt
import Derived.Test.YtppmgpicommdlaaWEqStruct
import Derived.Test.YtppmgpicommdlaaWRepsOne
import Derived.Test.YtppmgpicommdlaaWInv
import Derived.Test.YtppmgpicommdlaaWInvWords
import Derived.Test.YtppmgpicommdlaaWGuard
import Derived.Test.YtppmgpicommdlaaWNEv
import Derived.Test.YtppmgpicommdlaaWMore
namespace Go.Proofs.Ytppmgpicommdlaa.PBurstLess
open Go.RowKit Go.Proofs.YtppmgpicommdlaaW.PrintWords Go.Proofs.YtppmgpicommdlaaW.PrintLast Go.Proofs.YtppmgpicommdlaaW.PrintMore
attribute [local go_sem] max2_int min2_int max_two min_two max_three min_three max_four min_four   -- for this text's walks alone
set_option linter.unusedVariables false
set_option linter.unusedSimpArgs false



def errW : Option Int → Value
  | none => .nilIface
  | some c => .iface 0 (.int .i64 c)
theorem errW_none : errW none = .nilIface := rfl
theorem errW_some (c : Int) : errW (some c) = .iface 0 (.int .i64 c) := rfl

theorem info3 : (Try.prog.info? 3).map (fun i => (i.zero, i.size, i.bytes)) = some (some (.int .i64 0), 1, 8) := by kernel_rfl
-- the values' own types

end Go.Proofs.Ytppmgpicommdlaa.PBurstLess
