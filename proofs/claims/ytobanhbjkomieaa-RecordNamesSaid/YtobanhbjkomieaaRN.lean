import Derived.Test.YtobanhbjkomieaaRZ
import Derived.Test.YtobanhbjkomieaaOQ
namespace Go.Proofs.Ytobanhbjkomieaa.RP
open Go.RowKit Go.Proofs.Ytobanhbjkomieaa.PAll Go.Proofs.Ytobanhbjkomieaa.KP Go.Proofs.Ytobanhbjkomieaa.BP Go.Proofs.YtobanhbjkomieaaW.PrintWords Go.Proofs.YtobanhbjkomieaaW.PrintLast Go.Proofs.YtobanhbjkomieaaW.PrintMore
set_option linter.unusedSimpArgs false
set_option linter.unusedVariables false
attribute [local go_sem high] EQ.eqA23 EQ.eqA25 EQ.eqA113
/-! ### Encode and Decode, case by case -/
abbrev recA (rep : ByteArray) (ep tm : Int) (gone : Bool) : Value := .agg #[.string rep, .int .i64 ep, .int .i64 tm, .bool gone]
abbrev tenA (live ep : Int) : Value := .agg #[.int .i64 live, .int .i64 ep]
theorem bytes_size (rep : ByteArray) (ep tm : Int) (gone : Bool) : (strOfNums (recBytes rep ep tm gone)).size = (rcOf rep ep tm gone).bytes.length := by rw [Lib.size_eq, strOf_bytes]
theorem tbytes_size (live ep : Int) : (strOfNums (tenBytes live ep)).size = (⟨live, ep⟩ : Tn).bytes.length := by rw [Lib.size_eq, strOf_tbytes]
theorem back_rec {rep : ByteArray} {ep tm : Int} {gone : Bool} (h : mayRec rep ep tm = true) : decRc (strOfNums (recBytes rep ep tm gone)).data.toList = (rcOf rep ep tm gone, 0) := by
  have := decRc_full (r := rcOf rep ep tm gone) h []
  rw [strOf_bytes]
  simpa using this
theorem back_ten {live ep : Int} (h : mayTen live ep = true) : decTn (strOfNums (tenBytes live ep)).data.toList = (⟨live, ep⟩, 0) := by
  have := decTn_full (t := ⟨live, ep⟩) h []
  rw [strOf_tbytes]
  simpa using this
theorem encCase (rep : ByteArray) (hs : rep.size ≤ 140737488351232) (ep tm : Int) (gone : Bool) :
    (mayRec rep ep tm = true ∧ ∃ a : ByteArray, a.size ≤ 128 ∧ 0 < a.size ∧ a.data.toList = (rcOf rep ep tm gone).bytes ∧
      (∀ W, Calls Try.prog 81 #[recA rep ep tm gone] W fun r w' => r = .returned (.tuple #[.string a, .int .i64 0]) ∧ Below W.heap.size W w') ∧
      (∀ W, Calls Try.prog 89 #[recA rep ep tm gone, .string a] W fun r w' => r = .returned (.bool true) ∧ Below W.heap.size W w')) ∨
    (mayRec rep ep tm = false ∧ ∀ W, Calls Try.prog 81 #[recA rep ep tm gone] W fun r w' => r = .returned (.tuple #[.string ⟨#[]⟩, .int .i64 4]) ∧ Below W.heap.size W w') := by
  by_cases h : mayRec rep ep tm = true
  · left
    have hl := rc_len (r := rcOf rep ep tm gone) h
    have hp := rc_pos (r := rcOf rep ep tm gone)
    rw [← bytes_size] at hl hp
    exact ⟨h, strOfNums (recBytes rep ep tm gone), hl, hp, strOf_bytes _ _ _ _, fun W => encYes rep hs ep tm gone h W, fun W => is_yes rep hs ep tm gone _ (by omega) h rfl (back_rec h) W⟩
  · right
    rw [Bool.not_eq_true] at h
    refine ⟨h, fun W => ?_⟩
    have := encode_any rep hs ep tm gone W
    unfold encRes at this
    rwa [h] at this
theorem encTCase (live ep : Int) :
    (mayTen live ep = true ∧ ∃ b : ByteArray, b.size ≤ 128 ∧ 0 < b.size ∧ b.data.toList = (⟨live, ep⟩ : Tn).bytes ∧
      (∀ W, Calls Try.prog 83 #[tenA live ep] W fun r w' => r = .returned (.tuple #[.string b, .int .i64 0]) ∧ Below W.heap.size W w') ∧
      (∀ W, Calls Try.prog 77 #[.string b] W fun r w' => r = .returned (.tuple #[tenA live ep, .int .i64 0]) ∧ Below W.heap.size W w')) ∨
    (mayTen live ep = false ∧ ∀ W, Calls Try.prog 83 #[tenA live ep] W fun r w' => r = .returned (.tuple #[.string ⟨#[]⟩, .int .i64 4]) ∧ Below W.heap.size W w') := by
  by_cases h : mayTen live ep = true
  · left
    have hl := tn_len (t := ⟨live, ep⟩) h
    have hp := tn_pos (t := ⟨live, ep⟩)
    rw [← tbytes_size] at hl hp
    exact ⟨h, strOfNums (tenBytes live ep), hl, hp, strOf_tbytes _ _, fun W => encTYes live ep h _ rfl W, fun W => decTAs _ (by omega) live ep 0 (back_ten h) W⟩
  · right
    rw [Bool.not_eq_true] at h
    refine ⟨h, fun W => ?_⟩
    have := encodeTen_any live ep W
    unfold encTenRes at this
    rwa [h] at this
theorem decCase (s : ByteArray) (hs : s.size ≤ 140737488351232) : ∃ (rep : ByteArray) (ep tm : Int) (gone : Bool) (e : Int), decRc s.data.toList = (rcOf rep ep tm gone, e) ∧
    (∀ W, Calls Try.prog 75 #[.string s] W fun r w' => r = .returned (.tuple #[recA rep ep tm gone, .int .i64 e]) ∧ Below W.heap.size W w') ∧
    (e = 0 → mayRec rep ep tm = true ∧ rep.size ≤ 140737488351232 ∧ (rcOf rep ep tm gone).bytes.length ≤ s.size) := by
  refine ⟨⟨(decRc s.data.toList).1.rep.toArray⟩, (decRc s.data.toList).1.ep, (decRc s.data.toList).1.tm, (decRc s.data.toList).1.gone, (decRc s.data.toList).2, rfl, fun W => decode_any s hs W, fun he => ?_⟩
  have h := decRc_ok (s := s.data.toList) (r := (decRc s.data.toList).1) (Prod.ext rfl he)
  refine ⟨h.1, ?_, ?_⟩
  · have := (may_bd h.1).2.2.2.2.1
    rw [size_mk]; omega
  · rw [Lib.size_eq]; exact h.2
theorem decTCase (s : ByteArray) (hs : s.size ≤ 140737488351232) : ∃ (live ep e : Int), decTn s.data.toList = (⟨live, ep⟩, e) ∧
    (∀ W, Calls Try.prog 77 #[.string s] W fun r w' => r = .returned (.tuple #[tenA live ep, .int .i64 e]) ∧ Below W.heap.size W w') ∧
    (e = 0 → mayTen live ep = true ∧ (⟨live, ep⟩ : Tn).bytes.length ≤ s.size) := by
  refine ⟨(decTn s.data.toList).1.live, (decTn s.data.toList).1.ep, (decTn s.data.toList).2, rfl, fun W => decodeTen_any s hs W, fun he => ?_⟩
  have h := decTn_ok (s := s.data.toList) (t := (decTn s.data.toList).1) (Prod.ext rfl he)
  refine ⟨h.1, ?_⟩
  rw [Lib.size_eq]; exact h.2
theorem decT_nil (W : World) : Calls Try.prog 77 #[.string ⟨#[]⟩] W fun r w' => r = .returned (.tuple #[tenA 0 0, .int .i64 8]) ∧ Below W.heap.size W w' := decTAs _ (by decide) 0 0 8 (by decide +kernel) W
end Go.Proofs.Ytobanhbjkomieaa.RP
