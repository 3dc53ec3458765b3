-- Written by wip/tools/print2.py out of the translation and of wip/inj
import Derived.Test.YtobanhbjkomieaaProg
import Derived.Below
import Derived.Deep.Draws
import Derived.Deep.AppendLies
import Derived.Maps.AppendAt
import Derived.OwnWalk
import Derived.Laws.BytesArg
import Derived.Laws.MakeOwn
import Derived.Laws.OwnMore
import Derived.Deep.OwnRows
import Derived.Tactics
import Derived.Lib.ConvBytes
import Derived.Laws.Slices
import Derived.WalkKit
import Derived.KernelRfl
import Derived.RowKit3
import Derived.Deep.LoopGhost
import Derived.Deep.QuietTactic
import Derived.BigQuiet
import Derived.WideLaws
import Derived.Deep.DeepCutAuto
import Derived.Deep.CutBlock
import Derived.Deep.RegionHeld3
import Derived.Laws.Rows
import Derived.Lib.AppendStr
import Derived.ArgAppend
import Derived.Laws.IdiomCopy
import Derived.OrdersHeld
import Derived.Laws.BitsLemmas
import Derived.RowKit
import Derived.Lib.Bytealg
import Derived.Lib.Hide
import Derived.WalkSpells
import Derived.Laws.Externs
import Derived.WalkLawsBesides
import Derived.Test.YtobanhbjkomieaaWWords
import Derived.Test.YtobanhbjkomieaaWLast
import Derived.Test.YtobanhbjkomieaaWTab
import Derived.Test.YtobanhbjkomieaaWFour
import Derived.Test.YtobanhbjkomieaaWQPut
import Derived.Test.YtobanhbjkomieaaWApart
import Derived.Test.YtobanhbjkomieaaWArr
import Derived.Test.YtobanhbjkomieaaWZeros
import Derived.Test.YtobanhbjkomieaaWFoot
import Derived.Test.YtobanhbjkomieaaWKept
import Derived.Test.YtobanhbjkomieaaWShare
import Derived.Test.YtobanhbjkomieaaWN
import Derived.Test.YtobanhbjkomieaaWFootNe
import Derived.Test.YtobanhbjkomieaaWAt
import Derived.Test.YtobanhbjkomieaaWEqStruct
import Derived.Test.YtobanhbjkomieaaWRepsOne
import Derived.Test.YtobanhbjkomieaaWInv
import Derived.Test.YtobanhbjkomieaaWInvWords
import Derived.Test.YtobanhbjkomieaaWGuard
import Derived.Test.YtobanhbjkomieaaWNEv
import Derived.Test.YtobanhbjkomieaaWMore
namespace Go.Proofs.Ytobanhbjkomieaa.PRd
open Go.RowKit Go.Proofs.YtobanhbjkomieaaW.PrintWords Go.Proofs.YtobanhbjkomieaaW.PrintLast Go.Proofs.YtobanhbjkomieaaW.PrintMore
attribute [local go_sem] max2_int min2_int max_two min_two max_three min_three max_four min_four   -- for this text's walks alone
set_option linter.unusedVariables false
set_option linter.unusedSimpArgs false



def errW : Option Int → Value
  | none => .nilIface
  | some c => .iface 0 (.int .i64 c)
theorem errW_none : errW none = .nilIface := rfl
theorem errW_some (c : Int) : errW (some c) = .iface 0 (.int .i64 c) := rfl

-- the values' own types

end Go.Proofs.Ytobanhbjkomieaa.PRd
