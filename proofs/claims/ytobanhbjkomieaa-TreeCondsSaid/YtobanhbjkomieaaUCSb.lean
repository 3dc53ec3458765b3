import Derived.Test.YtobanhbjkomieaaUBSb
namespace Go.Proofs.Ytobanhbjkomieaa.TA
open Go Go.RowKit Go.Proofs.Ytobanhbjkomieaa.KP Go.Proofs.YtobanhbjkomieaaW.PrintWords Go.Proofs.YtobanhbjkomieaaW.PrintLast Go.Proofs.YtobanhbjkomieaaW.PrintMore
open Go.Proofs.Ytobanhbjkomieaa.RP (wTake wSkip wOne wpAnyH_cast below_next0)
set_option linter.unusedSimpArgs false
set_option linter.unusedVariables false
structure Gr (m : Md) (n : Nat) : Prop where
  ok : Ok m
  low : m.low = 0
  rev : 0 ≤ m.rev ∧ m.rev ≤ n
  row : m.row.length ≤ 8 * n
  hap : m.hap.length ≤ 8 * n
theorem gr_more {m : Md} {n : Nat} (h : Gr m n) (N : List Tx) : Gr (run may N m) (n + N.length) := by
  have h1 := run_rev may N m
  have h2 := run_le N m
  have h3 := h.rev
  have h4 := h.row
  have h5 := h.hap
  exact ⟨ok_run may N h.ok, (run_low may N m).trans h.low, by omega, by omega, by omega⟩
theorem gr_new : Gr Md.new 0 := ⟨ok_new, rfl, by simp [Md.new], by simp [Md.new], by simp [Md.new]⟩
theorem gr_run (L : List Tx) : Gr (run may L Md.new) L.length := by have := gr_more gr_new L; rwa [Nat.zero_add] at this
theorem sameM_self (m : Md) : sameM m m = true := by simp [sameM]
end Go.Proofs.Ytobanhbjkomieaa.TA
