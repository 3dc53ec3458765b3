import Derived.Test.YtidcdijplbopeaaKC
namespace Go.Proofs.Ytidcdijplbopeaa.KP
open Go.RowKit Go.Proofs.Ytidcdijplbopeaa.PAll Go.Proofs.YtidcdijplbopeaaW.PrintWords Go.Proofs.YtidcdijplbopeaaW.PrintLast
/-! ### at texts that are known -/
theorem read_lit (s : ByteArray) (a b : List UInt8) (c : Bool) (w : World) (hs : s.size ≤ 140737488351232) (h : readK s.data.toList = (a, b, c)) :
    Calls Try.prog 11 #[.string s] w fun e w' => e = .returned (.tuple #[.string ⟨a.toArray⟩, .string ⟨b.toArray⟩, .bool c]) ∧ Drawn0 w w' := by
  have := keysRead_any s hs w
  rw [h] at this
  exact this
theorem name_lit (s : ByteArray) (b : Bool) (w : World) (hs : s.size ≤ 140737488351232) (h : isName s.data.toList = b) :
    Calls Try.prog 19 #[.string s] w fun e w' => e = .returned (.bool b) ∧ Drawn0 w w' := by
  have := keysName_any s hs w
  rw [h] at this
  exact this
theorem key_lit (s : ByteArray) (b : Bool) (w : World) (hs : s.size ≤ 140737488351232) (h : isKey s.data.toList = b) :
    Calls Try.prog 20 #[.string s] w fun e w' => e = .returned (.bool b) ∧ Drawn0 w w' := by
  have := keysKey_any s hs w
  rw [h] at this
  exact this
theorem prefix_lit (s : ByteArray) (b : Bool) (w : World) (hs : s.size ≤ 140737488351232) (h : isPrefix s.data.toList = b) :
    Calls Try.prog 21 #[.string s] w fun e w' => e = .returned (.bool b) ∧ Drawn0 w w' := by
  have := keysPrefix_any s hs w
  rw [h] at this
  exact this
theorem cluster_lit (s t : ByteArray) (a : List UInt8) (w : World) (hs : s.size ≤ 140737488351232) (ht : t.size ≤ 140737488351232) (h : clusterK s.data.toList t.data.toList = a) :
    Calls Try.prog 13 #[.string s, .string t] w fun e w' => e = .returned (.string ⟨a.toArray⟩) ∧ Drawn0 w w' := by
  have := keysCluster_any s t hs ht w
  rw [h] at this
  exact this
theorem clusters_lit (s : ByteArray) (a : List UInt8) (w : World) (hs : s.size ≤ 140737488351232) (h : clustersK s.data.toList = a) :
    Calls Try.prog 15 #[.string s] w fun e w' => e = .returned (.string ⟨a.toArray⟩) ∧ Drawn0 w w' := by
  have := keysClusters_any s hs w
  rw [h] at this
  exact this
theorem tenant_lit (s : ByteArray) (a : List UInt8) (w : World) (hs : s.size ≤ 140737488351232) (h : tenantK s.data.toList = a) :
    Calls Try.prog 17 #[.string s] w fun e w' => e = .returned (.string ⟨a.toArray⟩) ∧ Drawn0 w w' := by
  have := keysTenant_any s hs w
  rw [h] at this
  exact this
theorem end_lit (s : ByteArray) (a : List UInt8) (w : World) (hs : s.size ≤ 140737488351232) (h : endK s.data.toList = a) :
    Calls Try.prog 22 #[.string s] w fun e w' => e = .returned (.string ⟨a.toArray⟩) ∧ Below w.heap.size w w' := by
  have := keysEnd_any s hs w
  rw [h] at this
  exact this
theorem begins_lit (s p : ByteArray) (b : Bool) (w : World) (h : beginsK s.data.toList p.data.toList = b) :
    Calls Try.prog 23 #[.string s, .string p] w fun e w' => e = .returned (.bool b) ∧ Drawn0 w w' := by
  have := keysBegins_any s p w
  rw [h] at this
  exact this
set_option maxHeartbeats 8000000 in
set_option maxRecDepth 100000 in
theorem awake_any (w : World) : Calls Try.prog 10 #[] w fun e w' => e = .returned (.bool true) ∧ Below w.heap.size w w' := by
  go_enter Try.func10, Try.ntmps10
  go_wp2_with fail
  refine (read_lit _ [97, 99, 109, 101] [101, 97, 115, 116, 45, 49] true _ (by decide) (by decide +kernel)).mono ?_
  rintro e w' ⟨rfl, ⟨n1, rfl⟩⟩
  go_wp2_with fail
  refine (read_lit _ [97, 99, 109, 101] [] true _ (by decide) (by decide +kernel)).mono ?_
  rintro e w' ⟨rfl, ⟨n2, rfl⟩⟩
  go_wp2_with fail
  refine (read_lit _ [] [] false _ (by decide) (by decide +kernel)).mono ?_
  rintro e w' ⟨rfl, ⟨n3, rfl⟩⟩
  go_wp2_with fail
  refine (read_lit _ [] [] false _ (by decide) (by decide +kernel)).mono ?_
  rintro e w' ⟨rfl, ⟨n4, rfl⟩⟩
  go_wp2_with fail
  refine (cluster_lit _ _ [99, 47, 97, 99, 109, 101, 47, 101, 97, 115, 116, 45, 49] _ (by decide) (by decide) (by decide +kernel)).mono ?_
  rintro e w' ⟨rfl, ⟨n5, rfl⟩⟩
  go_wp2_with fail
  refine (tenant_lit _ [116, 47, 97, 99, 109, 101] _ (by decide) (by decide +kernel)).mono ?_
  rintro e w' ⟨rfl, ⟨n6, rfl⟩⟩
  go_wp2_with fail
  refine (end_lit _ [99, 47, 98] _ (by decide) (by decide +kernel)).mono ?_
  rintro e w1 ⟨rfl, hb1⟩
  go_wp2_with fail
  refine (end_lit _ [] _ (by decide) (by decide +kernel)).mono ?_
  rintro e w2 ⟨rfl, hb2⟩
  go_wp2_with fail
  refine (name_lit _ false _ (by decide) (by decide +kernel)).mono ?_
  rintro e w' ⟨rfl, ⟨n7, rfl⟩⟩
  go_wp2_with fail
  refine (key_lit _ true _ (by decide) (by decide +kernel)).mono ?_
  rintro e w' ⟨rfl, ⟨n8, rfl⟩⟩
  go_wp2
  go_ret
  refine ⟨rfl, ?_⟩
  have h1 : Below w.heap.size w w1 := (pw_below_drewN (Below.refl _ _) _).trans hb1
  have h2 : Below w.heap.size w w2 := h1.trans (hb2.mono h1.size)
  exact pw_below_drewN h2 _
end Go.Proofs.Ytidcdijplbopeaa.KP
