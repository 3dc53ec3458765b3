-- Written by wip/tools/print2.py out of the translation and of wip/inj
import Derived.Test.YtidcdijplbopeaaPAllx0
import Derived.Test.YtidcdijplbopeaaPAllx1
import Derived.Test.YtidcdijplbopeaaPAllx2
import Derived.Test.YtidcdijplbopeaaPAllx3
namespace Go.Proofs.Ytidcdijplbopeaa.PAll
open Go.RowKit Go.Proofs.YtidcdijplbopeaaW.PrintWords Go.Proofs.YtidcdijplbopeaaW.PrintLast Go.Proofs.YtidcdijplbopeaaW.PrintMore
attribute [local go_sem] max2_int min2_int max_two min_two max_three min_three max_four min_four   -- for this text's walks alone
set_option linter.unusedVariables false
set_option linter.unusedSimpArgs false

end Go.Proofs.Ytidcdijplbopeaa.PAll
