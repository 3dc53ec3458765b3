import Derived.Test.YtobanhbjkomieaaKC
namespace Go.Proofs.Ytobanhbjkomieaa.KP
open Go.RowKit Go.Proofs.Ytobanhbjkomieaa.PAll Go.Proofs.YtobanhbjkomieaaW.PrintWords Go.Proofs.YtobanhbjkomieaaW.PrintLast
/-! ### at texts that are known -/
theorem read_lit (s : ByteArray) (a b : List UInt8) (c : Bool) (w : World) (hs : s.size ≤ 140737488351232) (h : readK s.data.toList = (a, b, c)) :
    Calls Try.prog 153 #[.string s] w fun e w' => e = .returned (.tuple #[.string ⟨a.toArray⟩, .string ⟨b.toArray⟩, .bool c]) ∧ Drawn0 w w' := by
  have := keysRead_any s hs w
  rw [h] at this
  exact this
theorem name_lit (s : ByteArray) (b : Bool) (w : World) (hs : s.size ≤ 140737488351232) (h : isName s.data.toList = b) :
    Calls Try.prog 107 #[.string s] w fun e w' => e = .returned (.bool b) ∧ Drawn0 w w' := by
  have := keysName_any s hs w
  rw [h] at this
  exact this
theorem key_lit (s : ByteArray) (b : Bool) (w : World) (hs : s.size ≤ 140737488351232) (h : isKey s.data.toList = b) :
    Calls Try.prog 123 #[.string s] w fun e w' => e = .returned (.bool b) ∧ Drawn0 w w' := by
  have := keysKey_any s hs w
  rw [h] at this
  exact this
theorem prefix_lit (s : ByteArray) (b : Bool) (w : World) (hs : s.size ≤ 140737488351232) (h : isPrefix s.data.toList = b) :
    Calls Try.prog 119 #[.string s] w fun e w' => e = .returned (.bool b) ∧ Drawn0 w w' := by
  have := keysPrefix_any s hs w
  rw [h] at this
  exact this
theorem cluster_lit (s t : ByteArray) (a : List UInt8) (w : World) (hs : s.size ≤ 140737488351232) (ht : t.size ≤ 140737488351232) (h : clusterK s.data.toList t.data.toList = a) :
    Calls Try.prog 168 #[.string s, .string t] w fun e w' => e = .returned (.string ⟨a.toArray⟩) ∧ Drawn0 w w' := by
  have := keysCluster_any s t hs ht w
  rw [h] at this
  exact this
theorem clusters_lit (s : ByteArray) (a : List UInt8) (w : World) (hs : s.size ≤ 140737488351232) (h : clustersK s.data.toList = a) :
    Calls Try.prog 202 #[.string s] w fun e w' => e = .returned (.string ⟨a.toArray⟩) ∧ Drawn0 w w' := by
  have := keysClusters_any s hs w
  rw [h] at this
  exact this
theorem tenant_lit (s : ByteArray) (a : List UInt8) (w : World) (hs : s.size ≤ 140737488351232) (h : tenantK s.data.toList = a) :
    Calls Try.prog 170 #[.string s] w fun e w' => e = .returned (.string ⟨a.toArray⟩) ∧ Drawn0 w w' := by
  have := keysTenant_any s hs w
  rw [h] at this
  exact this
theorem begins_lit (s p : ByteArray) (b : Bool) (w : World) (h : beginsK s.data.toList p.data.toList = b) :
    Calls Try.prog 117 #[.string s, .string p] w fun e w' => e = .returned (.bool b) ∧ Drawn0 w w' := by
  have := keysBegins_any s p w
  rw [h] at this
  exact this
end Go.Proofs.Ytobanhbjkomieaa.KP
