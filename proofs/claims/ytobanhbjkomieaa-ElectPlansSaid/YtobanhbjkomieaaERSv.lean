import Derived.Test.YtobanhbjkomieaaEMSv
import Derived.Laws.EntriesVeiled
namespace Go.Proofs.Ytobanhbjkomieaa.RP
open Go.RowKit Go.Proofs.Ytobanhbjkomieaa.PAll Go.Proofs.Ytobanhbjkomieaa.KP Go.Proofs.Ytobanhbjkomieaa.BP Go.Proofs.YtobanhbjkomieaaW.PrintWords Go.Proofs.YtobanhbjkomieaaW.PrintLast Go.Proofs.YtobanhbjkomieaaW.PrintMore
set_option linter.unusedSimpArgs false
set_option linter.unusedVariables false
abbrev rulesV : Value := .agg #[.nilFunc, .bool false, .nilFunc, .func (.func 194) #[] #[], .bool true, .func (.func 195) #[] #[], .func (.func 196) #[] #[], .bool false, .func (.func 197) #[] #[], .func (.func 198) #[] #[], .bool true, .func (.func 199) #[] #[], .func (.func 200) #[] #[], .bool false, .func (.func 201) #[] #[]]
set_option maxHeartbeats 2000000 in
set_option maxRecDepth 100000 in
theorem rules_any (w : World) : Calls Try.prog 167 #[] w fun e w' => e = .returned rulesV ∧ Below w.heap.size w w' := by
 go_enter Try.func167, Try.ntmps167
 go_wp2
 refine bodyPost_ret (results_cell_row rfl _ _ w.heap.size 211 _ (0, 0) _ rfl (heap_alloc_new w _) Try.underlying211 rfl (by kernel_rfl)) rfl ?_
 exact ⟨rfl, below_alloc (Below.refl _ _) _⟩
theorem idx1 (w : World) : (Instr.index 211 rulesV (.int .u8 1)).run Try.prog w = .ok (.agg #[.func (.func 194) #[] #[], .bool true, .func (.func 195) #[] #[]]) w := by
 have h : Try.prog.underlying 211 = some (.array 5 210) := by kernel_rfl
 have hs : (Try.prog.info? 210).map (·.size) = some 3 := by kernel_rfl
 obtain ⟨i0, hi, hz⟩ := Option.map_eq_some_iff.1 hs
 simp [Instr.index, run_underlying h, sizeOf, typeInfo, hi, hz, rulesV, asIntOf, part]
theorem idx2 (w : World) : (Instr.index 211 rulesV (.int .u8 2)).run Try.prog w = .ok (.agg #[.func (.func 196) #[] #[], .bool false, .func (.func 197) #[] #[]]) w := by
 have h : Try.prog.underlying 211 = some (.array 5 210) := by kernel_rfl
 have hs : (Try.prog.info? 210).map (·.size) = some 3 := by kernel_rfl
 obtain ⟨i0, hi, hz⟩ := Option.map_eq_some_iff.1 hs
 simp [Instr.index, run_underlying h, sizeOf, typeInfo, hi, hz, rulesV, asIntOf, part]
theorem idx3 (w : World) : (Instr.index 211 rulesV (.int .u8 3)).run Try.prog w = .ok (.agg #[.func (.func 198) #[] #[], .bool true, .func (.func 199) #[] #[]]) w := by
 have h : Try.prog.underlying 211 = some (.array 5 210) := by kernel_rfl
 have hs : (Try.prog.info? 210).map (·.size) = some 3 := by kernel_rfl
 obtain ⟨i0, hi, hz⟩ := Option.map_eq_some_iff.1 hs
 simp [Instr.index, run_underlying h, sizeOf, typeInfo, hi, hz, rulesV, asIntOf, part]
theorem idx4 (w : World) : (Instr.index 211 rulesV (.int .u8 4)).run Try.prog w = .ok (.agg #[.func (.func 200) #[] #[], .bool false, .func (.func 201) #[] #[]]) w := by
 have h : Try.prog.underlying 211 = some (.array 5 210) := by kernel_rfl
 have hs : (Try.prog.info? 210).map (·.size) = some 3 := by kernel_rfl
 obtain ⟨i0, hi, hz⟩ := Option.map_eq_some_iff.1 hs
 simp [Instr.index, run_underlying h, sizeOf, typeInfo, hi, hz, rulesV, asIntOf, part]
end Go.Proofs.Ytobanhbjkomieaa.RP
