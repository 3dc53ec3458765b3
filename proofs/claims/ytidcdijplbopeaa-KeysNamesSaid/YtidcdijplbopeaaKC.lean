import Derived.Test.YtidcdijplbopeaaKR
namespace Go.Proofs.Ytidcdijplbopeaa.KP
open Go.RowKit Go.Proofs.Ytidcdijplbopeaa.PAll Go.Proofs.YtidcdijplbopeaaW.PrintWords Go.Proofs.YtidcdijplbopeaaW.PrintLast

/-! ### the contracts, in the plain theory's words -/
theorem ev_calls {α : Type} {g : Nat → Option α} {r : α} (h : Ev g r) {Q : Prop} (k : ∀ n, g n = some r → Q) : Q := by
  obtain ⟨n, hn⟩ := h.rounds
  exact k n hn
section
variable (s t : ByteArray) (hs : s.size ≤ 140737488351232) (ht : t.size ≤ 140737488351232) (w : World)
include hs
theorem keysName_any : Calls Try.prog 19 #[.string s] w fun e w' => e = .returned (.bool (isName s.data.toList)) ∧ Drawn0 w w' := by
  obtain ⟨⟨l⟩⟩ := s
  exact ev_calls (name_ev l (by rw [size_mk] at hs; exact hs)) (fun k h => keys_Name.calls k _ _ w h)
theorem keysKey_any : Calls Try.prog 20 #[.string s] w fun e w' => e = .returned (.bool (isKey s.data.toList)) ∧ Drawn0 w w' := by
  obtain ⟨⟨l⟩⟩ := s
  exact ev_calls (key_ev l (by rw [size_mk] at hs; exact hs)) (fun k h => keys_Key.calls k _ _ w h)
theorem keysPrefix_any : Calls Try.prog 21 #[.string s] w fun e w' => e = .returned (.bool (isPrefix s.data.toList)) ∧ Drawn0 w w' := by
  obtain ⟨⟨l⟩⟩ := s
  exact ev_calls (prefix_ev l (by rw [size_mk] at hs; exact hs)) (fun k h => keys_Prefix.calls k _ _ w h)
theorem keysClusters_any : Calls Try.prog 15 #[.string s] w fun e w' => e = .returned (.string ⟨(clustersK s.data.toList).toArray⟩) ∧ Drawn0 w w' := by
  obtain ⟨⟨l⟩⟩ := s
  exact ev_calls (clusters_ev l (by rw [size_mk] at hs; exact hs)) (fun k h => keys_Clusters.calls k _ _ w h)
theorem keysTenant_any : Calls Try.prog 17 #[.string s] w fun e w' => e = .returned (.string ⟨(tenantK s.data.toList).toArray⟩) ∧ Drawn0 w w' := by
  obtain ⟨⟨l⟩⟩ := s
  exact ev_calls (tenant_ev l (by rw [size_mk] at hs; exact hs)) (fun k h => keys_Tenant.calls k _ _ w h)
theorem keysEnd_any : Calls Try.prog 22 #[.string s] w fun e w' => e = .returned (.string ⟨(endK s.data.toList).toArray⟩) ∧ Below w.heap.size w w' := by
  obtain ⟨⟨l⟩⟩ := s
  exact ev_calls (end_ev l (by rw [size_mk] at hs; exact hs)) (fun k h => keys_End.calls k _ _ w h)
theorem keysRead_any : Calls Try.prog 11 #[.string s] w fun e w' => e = .returned (.tuple #[.string ⟨(readK s.data.toList).1.toArray⟩, .string ⟨(readK s.data.toList).2.1.toArray⟩, .bool (readK s.data.toList).2.2]) ∧ Drawn0 w w' := by
  obtain ⟨⟨l⟩⟩ := s
  exact ev_calls (read_ev l (by rw [size_mk] at hs; exact hs)) (fun k h => keys_Read.calls k _ _ _ _ w h)
theorem refName_any : Calls Try.prog 24 #[.string s] w fun e w' => e = .returned (.bool (isName s.data.toList)) ∧ Drawn0 w w' := by
  obtain ⟨⟨l⟩⟩ := s
  exact ev_calls (rname_ev l (by rw [size_mk] at hs; exact hs)) (fun k h => batonref11_Name.calls k _ _ w h)
theorem refKey_any : Calls Try.prog 25 #[.string s] w fun e w' => e = .returned (.bool (isKey s.data.toList)) ∧ Drawn0 w w' := by
  obtain ⟨⟨l⟩⟩ := s
  exact ev_calls (rkey_ev l (by rw [size_mk] at hs; exact hs)) (fun k h => batonref11_Key.calls k _ _ w h)
theorem refPrefix_any : Calls Try.prog 26 #[.string s] w fun e w' => e = .returned (.bool (isPrefix s.data.toList)) ∧ Drawn0 w w' := by
  obtain ⟨⟨l⟩⟩ := s
  exact ev_calls (rprefix_ev l (by rw [size_mk] at hs; exact hs)) (fun k h => batonref11_Prefix.calls k _ _ w h)
theorem refClusters_any : Calls Try.prog 16 #[.string s] w fun e w' => e = .returned (.string ⟨(clustersK s.data.toList).toArray⟩) ∧ Drawn0 w w' := by
  obtain ⟨⟨l⟩⟩ := s
  exact ev_calls (rclusters_ev l (by rw [size_mk] at hs; exact hs)) (fun k h => batonref11_Clusters.calls k _ _ w h)
theorem refTenant_any : Calls Try.prog 18 #[.string s] w fun e w' => e = .returned (.string ⟨(tenantK s.data.toList).toArray⟩) ∧ Drawn0 w w' := by
  obtain ⟨⟨l⟩⟩ := s
  exact ev_calls (rtenant_ev l (by rw [size_mk] at hs; exact hs)) (fun k h => batonref11_Tenant.calls k _ _ w h)
theorem refEnd_any : Calls Try.prog 28 #[.string s] w fun e w' => e = .returned (.string ⟨(endK s.data.toList).toArray⟩) ∧ Below w.heap.size w w' := by
  obtain ⟨⟨l⟩⟩ := s
  exact ev_calls (rend_ev l (by rw [size_mk] at hs; exact hs)) (fun k h => batonref11_End.calls k _ _ w h)
theorem refRead_any : Calls Try.prog 12 #[.string s] w fun e w' => e = .returned (.tuple #[.string ⟨(readK s.data.toList).1.toArray⟩, .string ⟨(readK s.data.toList).2.1.toArray⟩, .bool (readK s.data.toList).2.2]) ∧ Drawn0 w w' := by
  obtain ⟨⟨l⟩⟩ := s
  exact ev_calls (rread_ev l (by rw [size_mk] at hs; exact hs)) (fun k h => batonref11_Read.calls k _ _ _ _ w h)
include ht
theorem keysCluster_any : Calls Try.prog 13 #[.string s, .string t] w fun e w' => e = .returned (.string ⟨(clusterK s.data.toList t.data.toList).toArray⟩) ∧ Drawn0 w w' := by
  obtain ⟨⟨l⟩⟩ := s
  obtain ⟨⟨m⟩⟩ := t
  exact ev_calls (cluster_ev l m (by rw [size_mk] at hs; exact hs) (by rw [size_mk] at ht; exact ht)) (fun k h => keys_Cluster.calls k _ _ _ w h)
theorem refCluster_any : Calls Try.prog 14 #[.string s, .string t] w fun e w' => e = .returned (.string ⟨(clusterK s.data.toList t.data.toList).toArray⟩) ∧ Drawn0 w w' := by
  obtain ⟨⟨l⟩⟩ := s
  obtain ⟨⟨m⟩⟩ := t
  exact ev_calls (rcluster_ev l m (by rw [size_mk] at hs; exact hs) (by rw [size_mk] at ht; exact ht)) (fun k h => batonref11_Cluster.calls k _ _ _ w h)
end
theorem keysBegins_any (s p : ByteArray) (w : World) : Calls Try.prog 23 #[.string s, .string p] w fun e w' => e = .returned (.bool (beginsK s.data.toList p.data.toList)) ∧ Drawn0 w w' := by
  obtain ⟨⟨l⟩⟩ := s
  obtain ⟨⟨m⟩⟩ := p
  exact keys_Begins.calls _ _ _ w (begins_eq l m)
theorem refBegins_any (s p : ByteArray) (w : World) : Calls Try.prog 27 #[.string s, .string p] w fun e w' => e = .returned (.bool (beginsK s.data.toList p.data.toList)) ∧ Drawn0 w w' := by
  obtain ⟨⟨l⟩⟩ := s
  obtain ⟨⟨m⟩⟩ := p
  exact batonref11_Begins.calls _ _ _ w (rbegins_eq l m)
end Go.Proofs.Ytidcdijplbopeaa.KP
