-- PRINTED BY print.sh 35421559b90ae4d0a3588c463048766b98c2df88dd9212a6774a882060cdf62d: not written by this session
import Derived.Test.YtilgcfhnpnokpaaProg
import Derived.Below
import Derived.Deep.Draws
import Derived.Deep.AppendLies
import Derived.Maps.AppendAt
import Derived.OwnWalk
import Derived.Laws.BytesArg
import Derived.Laws.MakeOwn
import Derived.Laws.OwnMore
import Derived.Deep.OwnRows
import Derived.Tactics
import Derived.Lib.ConvBytes
import Derived.Laws.Slices
import Derived.WalkKit
import Derived.KernelRfl
import Derived.RowKit3
import Derived.Deep.LoopGhost
import Derived.Deep.QuietTactic
import Derived.BigQuiet
import Derived.WideLaws
import Derived.Deep.DeepCutAuto
import Derived.Deep.CutBlock
import Derived.Deep.RegionHeld3
import Derived.Laws.Rows
import Derived.Lib.AppendStr
import Derived.ArgAppend
import Derived.Laws.IdiomCopy
import Derived.OrdersHeld
import Derived.Laws.BitsLemmas
import Derived.RowKit
import Derived.Test.YtilgcfhnpnokpaaWWords
import Derived.Test.YtilgcfhnpnokpaaWLast
import Derived.Test.YtilgcfhnpnokpaaWTab
import Derived.Test.YtilgcfhnpnokpaaWFour
import Derived.Test.YtilgcfhnpnokpaaWQPut
import Derived.Test.YtilgcfhnpnokpaaWApart
import Derived.Test.YtilgcfhnpnokpaaWArr
import Derived.Test.YtilgcfhnpnokpaaWZeros
import Derived.Test.YtilgcfhnpnokpaaWFoot
import Derived.Test.YtilgcfhnpnokpaaWKept
import Derived.Test.YtilgcfhnpnokpaaWShare
import Derived.Test.YtilgcfhnpnokpaaWN
import Derived.Test.YtilgcfhnpnokpaaWFootNe
import Derived.Test.YtilgcfhnpnokpaaWAt
import Derived.Test.YtilgcfhnpnokpaaWEqStruct
import Derived.Test.YtilgcfhnpnokpaaWRepsOne
import Derived.Test.YtilgcfhnpnokpaaWInv
import Derived.Test.YtilgcfhnpnokpaaWInvWords
import Derived.Test.YtilgcfhnpnokpaaWGuard
import Derived.Test.YtilgcfhnpnokpaaWNEv
import Derived.Test.YtilgcfhnpnokpaaWMore
namespace Go.Proofs.Ytilgcfhnpnokpaa.PFnExactWeightOf
open Go.RowKit Go.Proofs.YtilgcfhnpnokpaaW.PrintWords Go.Proofs.YtilgcfhnpnokpaaW.PrintLast Go.Proofs.YtilgcfhnpnokpaaW.PrintMore
attribute [local go_sem] max2_int min2_int max_two min_two max_three min_three max_four min_four   -- for this text's walks alone
set_option linter.unusedVariables false
set_option linter.unusedSimpArgs false



def errW : Option Int → Value
  | none => .nilIface
  | some c => .iface 0 (.int .i64 c)
theorem errW_none : errW none = .nilIface := rfl
theorem errW_some (c : Int) : errW (some c) = .iface 0 (.int .i64 c) := rfl

-- the values' own types

end Go.Proofs.Ytilgcfhnpnokpaa.PFnExactWeightOf
