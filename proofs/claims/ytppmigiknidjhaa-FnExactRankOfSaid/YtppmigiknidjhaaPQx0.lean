-- Written by a program of this session (pprint.py) out of the translation's print; Lean checks it.
import Derived.Test.YtppmigiknidjhaaProg
import Derived.Below
import Derived.Deep.Draws
import Derived.Deep.AppendLies
import Derived.Maps.AppendAt
import Derived.OwnWalk
import Derived.Laws.BytesArg
import Derived.Laws.MakeOwn
import Derived.Laws.OwnMore
import Derived.Deep.OwnRows
import Derived.Tactics
import Derived.Lib.ConvBytes
import Derived.Laws.Slices
import Derived.WalkKit
import Derived.KernelRfl
import Derived.RowKit3
import Derived.Deep.LoopGhost
import Derived.Deep.QuietTactic
import Derived.BigQuiet
import Derived.WideLaws
import Derived.Deep.DeepCutAuto
import Derived.Deep.CutBlock
import Derived.Deep.RegionHeld3
import Derived.Laws.Rows
import Derived.Lib.AppendStr
import Derived.ArgAppend
import Derived.Laws.IdiomCopy
import Derived.OrdersHeld
import Derived.Laws.BitsLemmas
import Derived.RowKit
import Derived.Test.YtppmigiknidjhaaWWords
import Derived.Test.YtppmigiknidjhaaWLast
import Derived.Test.YtppmigiknidjhaaWTab
import Derived.Test.YtppmigiknidjhaaWFour
import Derived.Test.YtppmigiknidjhaaWQPut
import Derived.Test.YtppmigiknidjhaaWApart
import Derived.Test.YtppmigiknidjhaaWArr
import Derived.Test.YtppmigiknidjhaaWZeros
import Derived.Test.YtppmigiknidjhaaWFoot
import Derived.Test.YtppmigiknidjhaaWKept
import Derived.Test.YtppmigiknidjhaaWShare
import Derived.Test.YtppmigiknidjhaaWN
import Derived.Test.YtppmigiknidjhaaWFootNe
import Derived.Test.YtppmigiknidjhaaWAt
import Derived.Test.YtppmigiknidjhaaWEqStruct
import Derived.Test.YtppmigiknidjhaaWRepsOne
import Derived.Test.YtppmigiknidjhaaWInv
import Derived.Test.YtppmigiknidjhaaWInvWords
import Derived.Test.YtppmigiknidjhaaWGuard
import Derived.Test.YtppmigiknidjhaaWNEv
import Derived.Test.YtppmigiknidjhaaWMore
namespace Go.Proofs.Ytppmigiknidjhaa.PQ
open Go.RowKit Go.Proofs.YtppmigiknidjhaaW.PrintWords Go.Proofs.YtppmigiknidjhaaW.PrintLast Go.Proofs.YtppmigiknidjhaaW.PrintMore
attribute [local go_sem] max2_int min2_int max_two min_two max_three min_three max_four min_four   -- for this text's walks alone
set_option linter.unusedVariables false
set_option linter.unusedSimpArgs false



def errW : Option Int → Value
  | none => .nilIface
  | some c => .iface 0 (.int .i64 c)
theorem errW_none : errW none = .nilIface := rfl
theorem errW_some (c : Int) : errW (some c) = .iface 0 (.int .i64 c) := rfl

theorem info3 : (Try.prog.info? 3).map (fun i => (i.zero, i.size, i.bytes)) = some (some (.int .i64 0), 1, 8) := by kernel_rfl
theorem info9 : (Try.prog.info? 9).map (fun i => (i.zero, i.size, i.bytes)) = some (some (.string ⟨#[]⟩), 1, 16) := by kernel_rfl
-- the values' own types

end Go.Proofs.Ytppmigiknidjhaa.PQ
