import Derived.Test.YtobanhbjkomieaaOPSv
namespace Go.Proofs.Ytobanhbjkomieaa.OP
open Go.ChangeShapes Go.WideShapes Go.Deep Go.Proofs.YtobanhbjkomieaaW.PrintWords
set_option linter.unusedSimpArgs false
set_option linter.unusedVariables false
abbrev I64 : Kd Int := Kd.int .i64
abbrev wf64 (n : Int) : Prop := (Lit.int .i64 n).wf = true
abbrev small (s : ByteArray) : Prop := s.size ≤ maxLen
set_option maxRecDepth 100000 in
theorem opens_Record (w : World) : Opens Try.prog w 23 (Kd.pair Kd.string (Kd.pair I64 (Kd.pair I64 Kd.bool))) (fun x => small x.1 ∧ wf64 x.2.1 ∧ wf64 x.2.2.1 ∧ True) :=
  opens_struct Try.underlying23 (by kernel_rfl) (seg_cons (opens_string Try.underlying9 (by kernel_rfl)) rfl (seg_cons (opens_int Try.underlying2 (by kernel_rfl)) rfl (seg_cons (opens_int Try.underlying2 (by kernel_rfl)) rfl (seg_one (opens_bool Try.underlying4 (by kernel_rfl)) rfl))))
set_option maxRecDepth 100000 in
theorem opens_Tenant (w : World) : Opens Try.prog w 25 (Kd.pair I64 I64) (fun x => wf64 x.1 ∧ wf64 x.2) :=
  opens_struct Try.underlying25 (by kernel_rfl) (seg_cons (opens_int Try.underlying3 (by kernel_rfl)) rfl (seg_one (opens_int Try.underlying2 (by kernel_rfl)) rfl))
end Go.Proofs.Ytobanhbjkomieaa.OP
