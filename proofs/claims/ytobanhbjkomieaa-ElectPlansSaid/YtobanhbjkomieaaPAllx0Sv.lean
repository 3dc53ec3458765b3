import Derived.Test.YtobanhbjkomieaaProg
import Derived.Below
import Derived.Deep.Draws
import Derived.Deep.AppendLies
import Derived.Maps.AppendAt
import Derived.OwnWalk
import Derived.Laws.BytesArg
import Derived.Laws.MakeOwn
import Derived.Laws.OwnMore
import Derived.Deep.OwnRows
import Derived.Tactics
import Derived.Lib.ConvBytes
import Derived.Laws.Slices
import Derived.WalkKit
import Derived.KernelRfl
import Derived.RowKit3
import Derived.Deep.LoopGhost
import Derived.Deep.QuietTactic
import Derived.BigQuiet
import Derived.WideLaws
import Derived.Deep.DeepCutAuto
import Derived.Deep.CutBlock
import Derived.Deep.RegionHeld3
import Derived.Laws.Rows
import Derived.Lib.AppendStr
import Derived.ArgAppend
import Derived.Laws.IdiomCopy
import Derived.OrdersHeld
import Derived.Laws.BitsLemmas
import Derived.RowKit
import Derived.Lib.Bytealg
import Derived.Lib.Hide
import Derived.WalkSpells
import Derived.Laws.Externs
import Derived.WalkLawsBesides
import Derived.Test.YtobanhbjkomieaaWWordsSv
import Derived.Test.YtobanhbjkomieaaWLastSv
import Derived.Test.YtobanhbjkomieaaWTabSv
import Derived.Test.YtobanhbjkomieaaWApartSv
import Derived.Test.YtobanhbjkomieaaWFootSv
import Derived.Test.YtobanhbjkomieaaWKeptSv
import Derived.Test.YtobanhbjkomieaaWShareSv
import Derived.Test.YtobanhbjkomieaaWNSv
import Derived.Test.YtobanhbjkomieaaWEqStructSv
import Derived.Test.YtobanhbjkomieaaWRepsOneSv
import Derived.Test.YtobanhbjkomieaaWGuardSv
import Derived.Test.YtobanhbjkomieaaWMoreSv
namespace Go.Proofs.Ytobanhbjkomieaa.PAll
open Go.RowKit Go.Proofs.YtobanhbjkomieaaW.PrintWords Go.Proofs.YtobanhbjkomieaaW.PrintLast Go.Proofs.YtobanhbjkomieaaW.PrintMore
attribute [local go_sem] max2_int min2_int max_two min_two max_three min_three max_four min_four   -- for this text's walks alone
set_option linter.unusedVariables false
set_option linter.unusedSimpArgs false
def errW : Option Int → Value
 | none => .nilIface
 | some c => .iface 0 (.int .i64 c)
theorem errW_none : errW none = .nilIface := rfl
theorem errW_some (c : Int) : errW (some c) = .iface 0 (.int .i64 c) := rfl
end Go.Proofs.Ytobanhbjkomieaa.PAll
