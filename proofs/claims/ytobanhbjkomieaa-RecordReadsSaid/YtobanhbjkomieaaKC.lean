import Derived.Test.YtobanhbjkomieaaKR
namespace Go.Proofs.Ytobanhbjkomieaa.KP
open Go.RowKit Go.Proofs.Ytobanhbjkomieaa.PAll Go.Proofs.YtobanhbjkomieaaW.PrintWords Go.Proofs.YtobanhbjkomieaaW.PrintLast

/-! ### the contracts, in the plain theory's words -/
theorem ev_calls {α : Type} {g : Nat → Option α} {r : α} (h : Ev g r) {Q : Prop} (k : ∀ n, g n = some r → Q) : Q := by
  obtain ⟨n, hn⟩ := h.rounds
  exact k n hn
section
variable (s t : ByteArray) (hs : s.size ≤ 140737488351232) (ht : t.size ≤ 140737488351232) (w : World)
include hs
theorem keysName_any : Calls Try.prog 107 #[.string s] w fun e w' => e = .returned (.bool (isName s.data.toList)) ∧ Drawn0 w w' := by
  obtain ⟨⟨l⟩⟩ := s
  exact ev_calls (name_ev l (by rw [size_mk] at hs; exact hs)) (fun k h => keys_Name.calls k _ _ w h)
theorem keysKey_any : Calls Try.prog 123 #[.string s] w fun e w' => e = .returned (.bool (isKey s.data.toList)) ∧ Drawn0 w w' := by
  obtain ⟨⟨l⟩⟩ := s
  exact ev_calls (key_ev l (by rw [size_mk] at hs; exact hs)) (fun k h => keys_Key.calls k _ _ w h)
theorem keysPrefix_any : Calls Try.prog 119 #[.string s] w fun e w' => e = .returned (.bool (isPrefix s.data.toList)) ∧ Drawn0 w w' := by
  obtain ⟨⟨l⟩⟩ := s
  exact ev_calls (prefix_ev l (by rw [size_mk] at hs; exact hs)) (fun k h => keys_Prefix.calls k _ _ w h)
theorem keysClusters_any : Calls Try.prog 202 #[.string s] w fun e w' => e = .returned (.string ⟨(clustersK s.data.toList).toArray⟩) ∧ Drawn0 w w' := by
  obtain ⟨⟨l⟩⟩ := s
  exact ev_calls (clusters_ev l (by rw [size_mk] at hs; exact hs)) (fun k h => keys_Clusters.calls k _ _ w h)
theorem keysTenant_any : Calls Try.prog 170 #[.string s] w fun e w' => e = .returned (.string ⟨(tenantK s.data.toList).toArray⟩) ∧ Drawn0 w w' := by
  obtain ⟨⟨l⟩⟩ := s
  exact ev_calls (tenant_ev l (by rw [size_mk] at hs; exact hs)) (fun k h => keys_Tenant.calls k _ _ w h)
theorem keysRead_any : Calls Try.prog 153 #[.string s] w fun e w' => e = .returned (.tuple #[.string ⟨(readK s.data.toList).1.toArray⟩, .string ⟨(readK s.data.toList).2.1.toArray⟩, .bool (readK s.data.toList).2.2]) ∧ Drawn0 w w' := by
  obtain ⟨⟨l⟩⟩ := s
  exact ev_calls (read_ev l (by rw [size_mk] at hs; exact hs)) (fun k h => keys_Read.calls k _ _ _ _ w h)
theorem refName_any : Calls Try.prog 94 #[.string s] w fun e w' => e = .returned (.bool (isName s.data.toList)) ∧ Drawn0 w w' := by
  obtain ⟨⟨l⟩⟩ := s
  exact ev_calls (rname_ev l (by rw [size_mk] at hs; exact hs)) (fun k h => batonref11_Name.calls k _ _ w h)
theorem refKey_any : Calls Try.prog 137 #[.string s] w fun e w' => e = .returned (.bool (isKey s.data.toList)) ∧ Drawn0 w w' := by
  obtain ⟨⟨l⟩⟩ := s
  exact ev_calls (rkey_ev l (by rw [size_mk] at hs; exact hs)) (fun k h => batonref11_Key.calls k _ _ w h)
theorem refPrefix_any : Calls Try.prog 177 #[.string s] w fun e w' => e = .returned (.bool (isPrefix s.data.toList)) ∧ Drawn0 w w' := by
  obtain ⟨⟨l⟩⟩ := s
  exact ev_calls (rprefix_ev l (by rw [size_mk] at hs; exact hs)) (fun k h => batonref11_Prefix.calls k _ _ w h)
theorem refTenant_any : Calls Try.prog 96 #[.string s] w fun e w' => e = .returned (.string ⟨(tenantK s.data.toList).toArray⟩) ∧ Drawn0 w w' := by
  obtain ⟨⟨l⟩⟩ := s
  exact ev_calls (rtenant_ev l (by rw [size_mk] at hs; exact hs)) (fun k h => batonref11_Tenant.calls k _ _ w h)
theorem refRead_any : Calls Try.prog 154 #[.string s] w fun e w' => e = .returned (.tuple #[.string ⟨(readK s.data.toList).1.toArray⟩, .string ⟨(readK s.data.toList).2.1.toArray⟩, .bool (readK s.data.toList).2.2]) ∧ Drawn0 w w' := by
  obtain ⟨⟨l⟩⟩ := s
  exact ev_calls (rread_ev l (by rw [size_mk] at hs; exact hs)) (fun k h => batonref11_Read.calls k _ _ _ _ w h)
include ht
theorem keysCluster_any : Calls Try.prog 168 #[.string s, .string t] w fun e w' => e = .returned (.string ⟨(clusterK s.data.toList t.data.toList).toArray⟩) ∧ Drawn0 w w' := by
  obtain ⟨⟨l⟩⟩ := s
  obtain ⟨⟨m⟩⟩ := t
  exact ev_calls (cluster_ev l m (by rw [size_mk] at hs; exact hs) (by rw [size_mk] at ht; exact ht)) (fun k h => keys_Cluster.calls k _ _ _ w h)
theorem refCluster_any : Calls Try.prog 95 #[.string s, .string t] w fun e w' => e = .returned (.string ⟨(clusterK s.data.toList t.data.toList).toArray⟩) ∧ Drawn0 w w' := by
  obtain ⟨⟨l⟩⟩ := s
  obtain ⟨⟨m⟩⟩ := t
  exact ev_calls (rcluster_ev l m (by rw [size_mk] at hs; exact hs) (by rw [size_mk] at ht; exact ht)) (fun k h => batonref11_Cluster.calls k _ _ _ w h)
end
theorem keysBegins_any (s p : ByteArray) (w : World) : Calls Try.prog 117 #[.string s, .string p] w fun e w' => e = .returned (.bool (beginsK s.data.toList p.data.toList)) ∧ Drawn0 w w' := by
  obtain ⟨⟨l⟩⟩ := s
  obtain ⟨⟨m⟩⟩ := p
  exact keys_Begins.calls _ _ _ w (begins_eq l m)
end Go.Proofs.Ytobanhbjkomieaa.KP
