-- PRINTED BY print.sh 35421559b90ae4d0a3588c463048766b98c2df88dd9212a6774a882060cdf62d: not written by this session
import Derived.Test.YtaahfebnbholmaaProg
import Derived.Below
import Derived.Deep.Draws
import Derived.Deep.AppendLies
import Derived.Maps.AppendAt
import Derived.OwnWalk
import Derived.Laws.BytesArg
import Derived.Laws.MakeOwn
import Derived.Laws.OwnMore
import Derived.Deep.OwnRows
import Derived.Tactics
import Derived.Lib.ConvBytes
import Derived.Laws.Slices
import Derived.WalkKit
import Derived.KernelRfl
import Derived.RowKit3
import Derived.Deep.LoopGhost
import Derived.Deep.QuietTactic
import Derived.BigQuiet
import Derived.WideLaws
import Derived.Deep.DeepCutAuto
import Derived.Deep.CutBlock
import Derived.Deep.RegionHeld3
import Derived.Laws.Rows
import Derived.Lib.AppendStr
import Derived.ArgAppend
import Derived.Laws.IdiomCopy
import Derived.OrdersHeld
import Derived.Laws.BitsLemmas
import Derived.RowKit
import Derived.Test.YtaahfebnbholmaaWWords
import Derived.Test.YtaahfebnbholmaaWLast
import Derived.Test.YtaahfebnbholmaaWTab
import Derived.Test.YtaahfebnbholmaaWFour
import Derived.Test.YtaahfebnbholmaaWQPut
import Derived.Test.YtaahfebnbholmaaWApart
import Derived.Test.YtaahfebnbholmaaWArr
import Derived.Test.YtaahfebnbholmaaWZeros
import Derived.Test.YtaahfebnbholmaaWFoot
import Derived.Test.YtaahfebnbholmaaWKept
import Derived.Test.YtaahfebnbholmaaWShare
import Derived.Test.YtaahfebnbholmaaWN
import Derived.Test.YtaahfebnbholmaaWFootNe
import Derived.Test.YtaahfebnbholmaaWAt
import Derived.Test.YtaahfebnbholmaaWEqStruct
import Derived.Test.YtaahfebnbholmaaWRepsOne
import Derived.Test.YtaahfebnbholmaaWInv
import Derived.Test.YtaahfebnbholmaaWInvWords
import Derived.Test.YtaahfebnbholmaaWGuard
import Derived.Test.YtaahfebnbholmaaWNEv
import Derived.Test.YtaahfebnbholmaaWMore
namespace Go.Proofs.Ytaahfebnbholmaa.PFnExactSharesOf
open Go.RowKit Go.Proofs.YtaahfebnbholmaaW.PrintWords Go.Proofs.YtaahfebnbholmaaW.PrintLast Go.Proofs.YtaahfebnbholmaaW.PrintMore
attribute [local go_sem] max2_int min2_int max_two min_two max_three min_three max_four min_four   -- for this text's walks alone
set_option linter.unusedVariables false
set_option linter.unusedSimpArgs false



def errW : Option Int → Value
  | none => .nilIface
  | some c => .iface 0 (.int .i64 c)
theorem errW_none : errW none = .nilIface := rfl
theorem errW_some (c : Int) : errW (some c) = .iface 0 (.int .i64 c) := rfl

theorem info2 : (Try.prog.info? 2).map (fun i => (i.zero, i.size, i.bytes)) = some (some (.int .i64 0), 1, 8) := by kernel_rfl
-- the values' own types

end Go.Proofs.Ytaahfebnbholmaa.PFnExactSharesOf
