-- Written by wip/tools/print2.py out of the translation and of wip/inj
import Derived.Test.YtidcdijplbopeaaProg
import Derived.Below
import Derived.Deep.Draws
import Derived.Deep.AppendLies
import Derived.Maps.AppendAt
import Derived.OwnWalk
import Derived.Laws.BytesArg
import Derived.Laws.MakeOwn
import Derived.Laws.OwnMore
import Derived.Deep.OwnRows
import Derived.Tactics
import Derived.Lib.ConvBytes
import Derived.Laws.Slices
import Derived.WalkKit
import Derived.KernelRfl
import Derived.RowKit3
import Derived.Deep.LoopGhost
import Derived.Deep.QuietTactic
import Derived.BigQuiet
import Derived.WideLaws
import Derived.Deep.DeepCutAuto
import Derived.Deep.CutBlock
import Derived.Deep.RegionHeld3
import Derived.Laws.Rows
import Derived.Lib.AppendStr
import Derived.ArgAppend
import Derived.Laws.IdiomCopy
import Derived.OrdersHeld
import Derived.Laws.BitsLemmas
import Derived.RowKit
import Derived.Lib.Bytealg
import Derived.Lib.Hide
import Derived.WalkSpells
import Derived.Laws.Externs
import Derived.WalkLawsBesides
import Derived.Test.YtidcdijplbopeaaWWords
import Derived.Test.YtidcdijplbopeaaWLast
import Derived.Test.YtidcdijplbopeaaWTab
import Derived.Test.YtidcdijplbopeaaWFour
import Derived.Test.YtidcdijplbopeaaWQPut
import Derived.Test.YtidcdijplbopeaaWApart
import Derived.Test.YtidcdijplbopeaaWArr
import Derived.Test.YtidcdijplbopeaaWZeros
import Derived.Test.YtidcdijplbopeaaWFoot
import Derived.Test.YtidcdijplbopeaaWKept
import Derived.Test.YtidcdijplbopeaaWShare
import Derived.Test.YtidcdijplbopeaaWN
import Derived.Test.YtidcdijplbopeaaWFootNe
import Derived.Test.YtidcdijplbopeaaWAt
import Derived.Test.YtidcdijplbopeaaWEqStruct
import Derived.Test.YtidcdijplbopeaaWRepsOne
import Derived.Test.YtidcdijplbopeaaWInv
import Derived.Test.YtidcdijplbopeaaWInvWords
import Derived.Test.YtidcdijplbopeaaWGuard
import Derived.Test.YtidcdijplbopeaaWNEv
import Derived.Test.YtidcdijplbopeaaWMore
namespace Go.Proofs.Ytidcdijplbopeaa.PAll
open Go.RowKit Go.Proofs.YtidcdijplbopeaaW.PrintWords Go.Proofs.YtidcdijplbopeaaW.PrintLast Go.Proofs.YtidcdijplbopeaaW.PrintMore
attribute [local go_sem] max2_int min2_int max_two min_two max_three min_three max_four min_four   -- for this text's walks alone
set_option linter.unusedVariables false
set_option linter.unusedSimpArgs false



def errW : Option Int → Value
  | none => .nilIface
  | some c => .iface 0 (.int .i64 c)
theorem errW_none : errW none = .nilIface := rfl
theorem errW_some (c : Int) : errW (some c) = .iface 0 (.int .i64 c) := rfl

-- the values' own types

end Go.Proofs.Ytidcdijplbopeaa.PAll
