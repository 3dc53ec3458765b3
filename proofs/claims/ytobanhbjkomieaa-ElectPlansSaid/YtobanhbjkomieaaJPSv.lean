import Derived.Test.YtobanhbjkomieaaRows
import Derived.ProofKit
namespace Go.Proofs.Ytobanhbjkomieaa.JP
open Go.ChangeShapes Go.WideShapes Go.ChangeAt Go.RowKit
theorem j1 : (laidOutB Try.checked.prog) = true := by kernel_rfl
theorem j2 : (mapsRowed Try.checked.prog) = true := by kernel_rfl
theorem j22 : ((Rows.electPlansRow.plainKeys == Try.checked.prog.plainKeys)) = true := by kernel_rfl
theorem j24 : (Try.checked.prog.stopsHeard) = true := by kernel_rfl
theorem j25 : (Try.checked.prog.mayEnter) = true := by kernel_rfl
theorem j26 : ((Rows.electPlansRow.lifted == Try.checked.prog.liftsFinal)) = true := by kernel_rfl
theorem j27 : ((Try.checked.prog.make == some Rows.electPlansRow.make)) = true := by kernel_rfl
end Go.Proofs.Ytobanhbjkomieaa.JP
