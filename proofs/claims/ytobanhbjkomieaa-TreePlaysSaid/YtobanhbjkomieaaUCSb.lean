import Derived.Test.YtobanhbjkomieaaUBSb
namespace Go.Proofs.Ytobanhbjkomieaa.TA
open Go Go.RowKit Go.Proofs.Ytobanhbjkomieaa.KP Go.Proofs.YtobanhbjkomieaaW.PrintWords Go.Proofs.YtobanhbjkomieaaW.PrintLast Go.Proofs.YtobanhbjkomieaaW.PrintMore
open Go.Proofs.Ytobanhbjkomieaa.RP (wTake wSkip wOne wpAnyH_cast below_next0)
set_option linter.unusedSimpArgs false
set_option linter.unusedVariables false
theorem sameM_self (m : Md) : sameM m m = true := by simp [sameM]
end Go.Proofs.Ytobanhbjkomieaa.TA
