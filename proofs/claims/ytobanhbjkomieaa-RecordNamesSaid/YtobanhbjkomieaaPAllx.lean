-- Written by wip/tools/print2.py out of the translation and of wip/inj
import Derived.Test.YtobanhbjkomieaaPAllx0
import Derived.Test.YtobanhbjkomieaaPAllx1
import Derived.Test.YtobanhbjkomieaaPAllx2
import Derived.Test.YtobanhbjkomieaaPAllx3
import Derived.Test.YtobanhbjkomieaaPAllx4
import Derived.Test.YtobanhbjkomieaaPAllx5
namespace Go.Proofs.Ytobanhbjkomieaa.PAll
open Go.RowKit Go.Proofs.YtobanhbjkomieaaW.PrintWords Go.Proofs.YtobanhbjkomieaaW.PrintLast Go.Proofs.YtobanhbjkomieaaW.PrintMore
attribute [local go_sem] max2_int min2_int max_two min_two max_three min_three max_four min_four   -- for this text's walks alone
set_option linter.unusedVariables false
set_option linter.unusedSimpArgs false

end Go.Proofs.Ytobanhbjkomieaa.PAll
