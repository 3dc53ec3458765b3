import Derived.Test.YtidcdijplbopeaaKQ
namespace Go.Proofs.Ytidcdijplbopeaa.KP
open Go.RowKit Go.Proofs.Ytidcdijplbopeaa.PAll Go.Proofs.YtidcdijplbopeaaW.PrintWords Go.Proofs.YtidcdijplbopeaaW.PrintLast
set_option maxHeartbeats 16000000 in
set_option maxRecDepth 100000 in
theorem KeysBack_walk (a0 a1 a2 a3 a4 : ByteArray) (w : World) (w0 : a0.size ≤ 140737488351232) (w1 : a1.size ≤ 140737488351232) (w2 : a2.size ≤ 140737488351232) (w3 : a3.size ≤ 140737488351232) (w4 : a4.size ≤ 140737488351232) :
    Calls Try.prog 4 #[.string a0, .string a1, .string a2, .string a3, .string a4] w fun e w' => e = .returned (.bool true) ∧ Below w.heap.size w w' := by
  by_cases g0 : 3000 < a0.size
  · go_enter Try.func4, Try.ntmps4
    go_wp2_with fail
    refine (awake_any _).mono ?_
    rintro e x1 ⟨rfl, hx1⟩
    go_wp2
    go_ret
    exact ⟨rfl, hx1⟩
  by_cases g1 : 3000 < a1.size
  · go_enter Try.func4, Try.ntmps4
    go_wp2_with fail
    refine (awake_any _).mono ?_
    rintro e x1 ⟨rfl, hx1⟩
    go_wp2
    go_ret
    exact ⟨rfl, hx1⟩
  by_cases g2 : 3000 < a2.size
  · go_enter Try.func4, Try.ntmps4
    go_wp2_with fail
    refine (awake_any _).mono ?_
    rintro e x1 ⟨rfl, hx1⟩
    go_wp2
    go_ret
    exact ⟨rfl, hx1⟩
  by_cases g3 : 3000 < a3.size
  · go_enter Try.func4, Try.ntmps4
    go_wp2_with fail
    refine (awake_any _).mono ?_
    rintro e x1 ⟨rfl, hx1⟩
    go_wp2
    go_ret
    exact ⟨rfl, hx1⟩
  by_cases g4 : 3000 < a4.size
  · go_enter Try.func4, Try.ntmps4
    go_wp2_with fail
    refine (awake_any _).mono ?_
    rintro e x1 ⟨rfl, hx1⟩
    go_wp2
    go_ret
    exact ⟨rfl, hx1⟩
  cases ha : isName a0.data.toList
  · have E1 : Hid (clusterK a0.data.toList a1.data.toList = []) := Lib.hid (clusterK_no (.inl ha))
    have E2 := Lib.hid (tenantK_no ha)
    have E3 := Lib.hid ha
    clear ha
    rcases read_cases a4 with hr | ⟨X, Y, hX, hY, hr, hk | ⟨hY0, hk, ht⟩⟩
    · have R := Lib.hid hr
      clear hr
      go_enter Try.func4, Try.ntmps4
      go_wp2_with fail
      refine (awake_any _).mono ?_
      rintro e x1 ⟨rfl, hx1⟩
      go_wp2_with fail
      refine (cluster_lit _ _ _ _ w0 w1 E1.out).mono ?_
      rintro e w' ⟨rfl, ⟨n25, rfl⟩⟩
      go_wp2_with fail
      refine (tenant_lit _ _ _ w0 E2.out).mono ?_
      rintro e w' ⟨rfl, ⟨n26, rfl⟩⟩
      go_wp2_with fail
      refine (name_lit _ _ _ w0 E3.out).mono ?_
      rintro e w' ⟨rfl, ⟨n27, rfl⟩⟩
      go_wp2_with fail
      refine (name_lit _ _ _ w0 E3.out).mono ?_
      rintro e w' ⟨rfl, ⟨n28, rfl⟩⟩
      go_wp2_with fail
      refine (read_lit _ _ _ _ _ w4 R.out).mono ?_
      rintro e w' ⟨rfl, ⟨n29, rfl⟩⟩
      go_wp2
      go_ret
      exact ⟨by first | rfl | simp, pw_below_drewN hx1 _⟩
    · have SX := Lib.hid (show X.size ≤ 140737488351232 by omega)
      have SY := Lib.hid (show Y.size ≤ 140737488351232 by omega)
      have R := Lib.hid hr
      have K1 : (a4.toList == clusterK X.data.toList Y.data.toList) = true := by rw [hk, Lib.toList_data]; exact beq_self_eq_true _
      clear hX hY hr hk
      go_enter Try.func4, Try.ntmps4
      go_wp2_with fail
      refine (awake_any _).mono ?_
      rintro e x1 ⟨rfl, hx1⟩
      go_wp2_with fail
      refine (cluster_lit _ _ _ _ w0 w1 E1.out).mono ?_
      rintro e w' ⟨rfl, ⟨n25, rfl⟩⟩
      go_wp2_with fail
      refine (tenant_lit _ _ _ w0 E2.out).mono ?_
      rintro e w' ⟨rfl, ⟨n26, rfl⟩⟩
      go_wp2_with fail
      refine (name_lit _ _ _ w0 E3.out).mono ?_
      rintro e w' ⟨rfl, ⟨n27, rfl⟩⟩
      go_wp2_with fail
      refine (name_lit _ _ _ w0 E3.out).mono ?_
      rintro e w' ⟨rfl, ⟨n28, rfl⟩⟩
      go_wp2_with fail
      refine (read_str _ X Y true _ w4 R.out).mono ?_
      rintro e w' ⟨rfl, ⟨n30, rfl⟩⟩
      go_wp2_with fail
      refine (keysCluster_any _ _ SX.out SY.out _).mono ?_
      rintro e w' ⟨rfl, ⟨n31, rfl⟩⟩
      go_wp2
      go_ret
      exact ⟨by first | rfl | simp, pw_below_drewN hx1 _⟩
    · subst hY0
      have SX := Lib.hid (show X.size ≤ 140737488351232 by omega)
      have SY := Lib.hid (show (⟨#[]⟩ : ByteArray).size ≤ 140737488351232 by omega)
      have R := Lib.hid hr
      have K1 : (a4.toList == clusterK X.data.toList (⟨#[]⟩ : ByteArray).data.toList) = false := by rw [beq_eq_false_iff_ne, Lib.toList_data]; exact fun h => hk h.symm
      have K2 : (a4.toList == tenantK X.data.toList) = true := by rw [ht, Lib.toList_data]; exact beq_self_eq_true _
      clear hX hY hr hk ht
      go_enter Try.func4, Try.ntmps4
      go_wp2_with fail
      refine (awake_any _).mono ?_
      rintro e x1 ⟨rfl, hx1⟩
      go_wp2_with fail
      refine (cluster_lit _ _ _ _ w0 w1 E1.out).mono ?_
      rintro e w' ⟨rfl, ⟨n25, rfl⟩⟩
      go_wp2_with fail
      refine (tenant_lit _ _ _ w0 E2.out).mono ?_
      rintro e w' ⟨rfl, ⟨n26, rfl⟩⟩
      go_wp2_with fail
      refine (name_lit _ _ _ w0 E3.out).mono ?_
      rintro e w' ⟨rfl, ⟨n27, rfl⟩⟩
      go_wp2_with fail
      refine (name_lit _ _ _ w0 E3.out).mono ?_
      rintro e w' ⟨rfl, ⟨n28, rfl⟩⟩
      go_wp2_with fail
      refine (read_str _ X ⟨#[]⟩ true _ w4 R.out).mono ?_
      rintro e w' ⟨rfl, ⟨n32, rfl⟩⟩
      go_wp2_with fail
      refine (keysCluster_any _ _ SX.out SY.out _).mono ?_
      rintro e w' ⟨rfl, ⟨n33, rfl⟩⟩
      go_wp2_with fail
      refine (keysTenant_any _ SX.out _).mono ?_
      rintro e w' ⟨rfl, ⟨n34, rfl⟩⟩
      go_wp2
      go_ret
      exact ⟨by first | rfl | simp, pw_below_drewN hx1 _⟩
  have E2 : Hid (tenantK a0.data.toList = 116 :: 47 :: a0.data.toList) := Lib.hid (tenantK_yes ha)
  have E3 := Lib.hid ha
  have E4 : Hid (isKey (⟨(116 :: 47 :: a0.data.toList).toArray⟩ : ByteArray).data.toList = true) := by
    have := isKey_tenant ha
    rw [E2.out] at this
    exact Lib.hid this
  have E5 : Hid (readK (⟨(116 :: 47 :: a0.data.toList).toArray⟩ : ByteArray).data.toList = (a0.data.toList, (⟨#[]⟩ : ByteArray).data.toList, true)) := by
    have := read_tenant ha
    rw [E2.out] at this
    exact Lib.hid this
  have S2 : Hid ((⟨(116 :: 47 :: a0.data.toList).toArray⟩ : ByteArray).size ≤ 140737488351232) := by
    have := isName_len ha
    refine Lib.hid ?_
    rw [size_mk]
    simp
    omega
  have T1 : (116 :: 47 :: a0.data.toList == tenantK a2.data.toList) = (a0.toList == a2.toList) := by
    have := tenant_inj (c := a2.data.toList) ha
    rw [E2.out, ← Lib.toList_data, ← Lib.toList_data] at this
    rw [← Lib.toList_data, ← Lib.toList_data]
    exact this
  cases hb : isName a1.data.toList
  · have E1 : Hid (clusterK a0.data.toList a1.data.toList = []) := Lib.hid (clusterK_no (.inr hb))
    have E6 := Lib.hid hb
    clear hb ha
    cases hac : (a0.toList == a2.toList)
    · rw [hac] at T1
      rcases read_cases a4 with hr | ⟨X, Y, hX, hY, hr, hk | ⟨hY0, hk, ht⟩⟩
      · have R := Lib.hid hr
        clear hr
        go_enter Try.func4, Try.ntmps4
        go_wp2_with fail
        refine (awake_any _).mono ?_
        rintro e x1 ⟨rfl, hx1⟩
        go_wp2_with fail
        refine (cluster_lit _ _ _ _ w0 w1 E1.out).mono ?_
        rintro e w' ⟨rfl, ⟨n37, rfl⟩⟩
        go_wp2_with fail
        refine (tenant_lit _ _ _ w0 E2.out).mono ?_
        rintro e w' ⟨rfl, ⟨n38, rfl⟩⟩
        go_wp2_with fail
        refine (name_lit _ _ _ w0 E3.out).mono ?_
        rintro e w' ⟨rfl, ⟨n39, rfl⟩⟩
        go_wp2_with fail
        refine (name_lit _ _ _ w1 E6.out).mono ?_
        rintro e w' ⟨rfl, ⟨n40, rfl⟩⟩
        go_wp2_with fail
        refine (name_lit _ _ _ w0 E3.out).mono ?_
        rintro e w' ⟨rfl, ⟨n41, rfl⟩⟩
        go_wp2_with fail
        refine (key_lit _ _ _ S2.out E4.out).mono ?_
        rintro e w' ⟨rfl, ⟨n42, rfl⟩⟩
        go_wp2_with fail
        refine (read_str _ a0 ⟨#[]⟩ true _ S2.out E5.out).mono ?_
        rintro e w' ⟨rfl, ⟨n35, rfl⟩⟩
        go_wp2_with fail
        refine (keysTenant_any _ w2 _).mono ?_
        rintro e w' ⟨rfl, ⟨n36, rfl⟩⟩
        go_wp2_with fail
        refine (read_lit _ _ _ _ _ w4 R.out).mono ?_
        rintro e w' ⟨rfl, ⟨n43, rfl⟩⟩
        go_wp2
        go_ret
        exact ⟨by first | rfl | simp, pw_below_drewN hx1 _⟩
      · have SX := Lib.hid (show X.size ≤ 140737488351232 by omega)
        have SY := Lib.hid (show Y.size ≤ 140737488351232 by omega)
        have R := Lib.hid hr
        have K1 : (a4.toList == clusterK X.data.toList Y.data.toList) = true := by rw [hk, Lib.toList_data]; exact beq_self_eq_true _
        clear hX hY hr hk
        go_enter Try.func4, Try.ntmps4
        go_wp2_with fail
        refine (awake_any _).mono ?_
        rintro e x1 ⟨rfl, hx1⟩
        go_wp2_with fail
        refine (cluster_lit _ _ _ _ w0 w1 E1.out).mono ?_
        rintro e w' ⟨rfl, ⟨n37, rfl⟩⟩
        go_wp2_with fail
        refine (tenant_lit _ _ _ w0 E2.out).mono ?_
        rintro e w' ⟨rfl, ⟨n38, rfl⟩⟩
        go_wp2_with fail
        refine (name_lit _ _ _ w0 E3.out).mono ?_
        rintro e w' ⟨rfl, ⟨n39, rfl⟩⟩
        go_wp2_with fail
        refine (name_lit _ _ _ w1 E6.out).mono ?_
        rintro e w' ⟨rfl, ⟨n40, rfl⟩⟩
        go_wp2_with fail
        refine (name_lit _ _ _ w0 E3.out).mono ?_
        rintro e w' ⟨rfl, ⟨n41, rfl⟩⟩
        go_wp2_with fail
        refine (key_lit _ _ _ S2.out E4.out).mono ?_
        rintro e w' ⟨rfl, ⟨n42, rfl⟩⟩
        go_wp2_with fail
        refine (read_str _ a0 ⟨#[]⟩ true _ S2.out E5.out).mono ?_
        rintro e w' ⟨rfl, ⟨n35, rfl⟩⟩
        go_wp2_with fail
        refine (keysTenant_any _ w2 _).mono ?_
        rintro e w' ⟨rfl, ⟨n36, rfl⟩⟩
        go_wp2_with fail
        refine (read_str _ X Y true _ w4 R.out).mono ?_
        rintro e w' ⟨rfl, ⟨n44, rfl⟩⟩
        go_wp2_with fail
        refine (keysCluster_any _ _ SX.out SY.out _).mono ?_
        rintro e w' ⟨rfl, ⟨n45, rfl⟩⟩
        go_wp2
        go_ret
        exact ⟨by first | rfl | simp, pw_below_drewN hx1 _⟩
      · subst hY0
        have SX := Lib.hid (show X.size ≤ 140737488351232 by omega)
        have SY := Lib.hid (show (⟨#[]⟩ : ByteArray).size ≤ 140737488351232 by omega)
        have R := Lib.hid hr
        have K1 : (a4.toList == clusterK X.data.toList (⟨#[]⟩ : ByteArray).data.toList) = false := by rw [beq_eq_false_iff_ne, Lib.toList_data]; exact fun h => hk h.symm
        have K2 : (a4.toList == tenantK X.data.toList) = true := by rw [ht, Lib.toList_data]; exact beq_self_eq_true _
        clear hX hY hr hk ht
        go_enter Try.func4, Try.ntmps4
        go_wp2_with fail
        refine (awake_any _).mono ?_
        rintro e x1 ⟨rfl, hx1⟩
        go_wp2_with fail
        refine (cluster_lit _ _ _ _ w0 w1 E1.out).mono ?_
        rintro e w' ⟨rfl, ⟨n37, rfl⟩⟩
        go_wp2_with fail
        refine (tenant_lit _ _ _ w0 E2.out).mono ?_
        rintro e w' ⟨rfl, ⟨n38, rfl⟩⟩
        go_wp2_with fail
        refine (name_lit _ _ _ w0 E3.out).mono ?_
        rintro e w' ⟨rfl, ⟨n39, rfl⟩⟩
        go_wp2_with fail
        refine (name_lit _ _ _ w1 E6.out).mono ?_
        rintro e w' ⟨rfl, ⟨n40, rfl⟩⟩
        go_wp2_with fail
        refine (name_lit _ _ _ w0 E3.out).mono ?_
        rintro e w' ⟨rfl, ⟨n41, rfl⟩⟩
        go_wp2_with fail
        refine (key_lit _ _ _ S2.out E4.out).mono ?_
        rintro e w' ⟨rfl, ⟨n42, rfl⟩⟩
        go_wp2_with fail
        refine (read_str _ a0 ⟨#[]⟩ true _ S2.out E5.out).mono ?_
        rintro e w' ⟨rfl, ⟨n35, rfl⟩⟩
        go_wp2_with fail
        refine (keysTenant_any _ w2 _).mono ?_
        rintro e w' ⟨rfl, ⟨n36, rfl⟩⟩
        go_wp2_with fail
        refine (read_str _ X ⟨#[]⟩ true _ w4 R.out).mono ?_
        rintro e w' ⟨rfl, ⟨n46, rfl⟩⟩
        go_wp2_with fail
        refine (keysCluster_any _ _ SX.out SY.out _).mono ?_
        rintro e w' ⟨rfl, ⟨n47, rfl⟩⟩
        go_wp2_with fail
        refine (keysTenant_any _ SX.out _).mono ?_
        rintro e w' ⟨rfl, ⟨n48, rfl⟩⟩
        go_wp2
        go_ret
        exact ⟨by first | rfl | simp, pw_below_drewN hx1 _⟩
    · rw [hac] at T1
      rcases read_cases a4 with hr | ⟨X, Y, hX, hY, hr, hk | ⟨hY0, hk, ht⟩⟩
      · have R := Lib.hid hr
        clear hr
        go_enter Try.func4, Try.ntmps4
        go_wp2_with fail
        refine (awake_any _).mono ?_
        rintro e x1 ⟨rfl, hx1⟩
        go_wp2_with fail
        refine (cluster_lit _ _ _ _ w0 w1 E1.out).mono ?_
        rintro e w' ⟨rfl, ⟨n49, rfl⟩⟩
        go_wp2_with fail
        refine (tenant_lit _ _ _ w0 E2.out).mono ?_
        rintro e w' ⟨rfl, ⟨n50, rfl⟩⟩
        go_wp2_with fail
        refine (name_lit _ _ _ w0 E3.out).mono ?_
        rintro e w' ⟨rfl, ⟨n51, rfl⟩⟩
        go_wp2_with fail
        refine (name_lit _ _ _ w1 E6.out).mono ?_
        rintro e w' ⟨rfl, ⟨n52, rfl⟩⟩
        go_wp2_with fail
        refine (name_lit _ _ _ w0 E3.out).mono ?_
        rintro e w' ⟨rfl, ⟨n53, rfl⟩⟩
        go_wp2_with fail
        refine (key_lit _ _ _ S2.out E4.out).mono ?_
        rintro e w' ⟨rfl, ⟨n54, rfl⟩⟩
        go_wp2_with fail
        refine (read_str _ a0 ⟨#[]⟩ true _ S2.out E5.out).mono ?_
        rintro e w' ⟨rfl, ⟨n35, rfl⟩⟩
        go_wp2_with fail
        refine (keysTenant_any _ w2 _).mono ?_
        rintro e w' ⟨rfl, ⟨n36, rfl⟩⟩
        go_wp2_with fail
        refine (read_lit _ _ _ _ _ w4 R.out).mono ?_
        rintro e w' ⟨rfl, ⟨n55, rfl⟩⟩
        go_wp2
        go_ret
        exact ⟨by first | rfl | simp, pw_below_drewN hx1 _⟩
      · have SX := Lib.hid (show X.size ≤ 140737488351232 by omega)
        have SY := Lib.hid (show Y.size ≤ 140737488351232 by omega)
        have R := Lib.hid hr
        have K1 : (a4.toList == clusterK X.data.toList Y.data.toList) = true := by rw [hk, Lib.toList_data]; exact beq_self_eq_true _
        clear hX hY hr hk
        go_enter Try.func4, Try.ntmps4
        go_wp2_with fail
        refine (awake_any _).mono ?_
        rintro e x1 ⟨rfl, hx1⟩
        go_wp2_with fail
        refine (cluster_lit _ _ _ _ w0 w1 E1.out).mono ?_
        rintro e w' ⟨rfl, ⟨n49, rfl⟩⟩
        go_wp2_with fail
        refine (tenant_lit _ _ _ w0 E2.out).mono ?_
        rintro e w' ⟨rfl, ⟨n50, rfl⟩⟩
        go_wp2_with fail
        refine (name_lit _ _ _ w0 E3.out).mono ?_
        rintro e w' ⟨rfl, ⟨n51, rfl⟩⟩
        go_wp2_with fail
        refine (name_lit _ _ _ w1 E6.out).mono ?_
        rintro e w' ⟨rfl, ⟨n52, rfl⟩⟩
        go_wp2_with fail
        refine (name_lit _ _ _ w0 E3.out).mono ?_
        rintro e w' ⟨rfl, ⟨n53, rfl⟩⟩
        go_wp2_with fail
        refine (key_lit _ _ _ S2.out E4.out).mono ?_
        rintro e w' ⟨rfl, ⟨n54, rfl⟩⟩
        go_wp2_with fail
        refine (read_str _ a0 ⟨#[]⟩ true _ S2.out E5.out).mono ?_
        rintro e w' ⟨rfl, ⟨n35, rfl⟩⟩
        go_wp2_with fail
        refine (keysTenant_any _ w2 _).mono ?_
        rintro e w' ⟨rfl, ⟨n36, rfl⟩⟩
        go_wp2_with fail
        refine (read_str _ X Y true _ w4 R.out).mono ?_
        rintro e w' ⟨rfl, ⟨n56, rfl⟩⟩
        go_wp2_with fail
        refine (keysCluster_any _ _ SX.out SY.out _).mono ?_
        rintro e w' ⟨rfl, ⟨n57, rfl⟩⟩
        go_wp2
        go_ret
        exact ⟨by first | rfl | simp, pw_below_drewN hx1 _⟩
      · subst hY0
        have SX := Lib.hid (show X.size ≤ 140737488351232 by omega)
        have SY := Lib.hid (show (⟨#[]⟩ : ByteArray).size ≤ 140737488351232 by omega)
        have R := Lib.hid hr
        have K1 : (a4.toList == clusterK X.data.toList (⟨#[]⟩ : ByteArray).data.toList) = false := by rw [beq_eq_false_iff_ne, Lib.toList_data]; exact fun h => hk h.symm
        have K2 : (a4.toList == tenantK X.data.toList) = true := by rw [ht, Lib.toList_data]; exact beq_self_eq_true _
        clear hX hY hr hk ht
        go_enter Try.func4, Try.ntmps4
        go_wp2_with fail
        refine (awake_any _).mono ?_
        rintro e x1 ⟨rfl, hx1⟩
        go_wp2_with fail
        refine (cluster_lit _ _ _ _ w0 w1 E1.out).mono ?_
        rintro e w' ⟨rfl, ⟨n49, rfl⟩⟩
        go_wp2_with fail
        refine (tenant_lit _ _ _ w0 E2.out).mono ?_
        rintro e w' ⟨rfl, ⟨n50, rfl⟩⟩
        go_wp2_with fail
        refine (name_lit _ _ _ w0 E3.out).mono ?_
        rintro e w' ⟨rfl, ⟨n51, rfl⟩⟩
        go_wp2_with fail
        refine (name_lit _ _ _ w1 E6.out).mono ?_
        rintro e w' ⟨rfl, ⟨n52, rfl⟩⟩
        go_wp2_with fail
        refine (name_lit _ _ _ w0 E3.out).mono ?_
        rintro e w' ⟨rfl, ⟨n53, rfl⟩⟩
        go_wp2_with fail
        refine (key_lit _ _ _ S2.out E4.out).mono ?_
        rintro e w' ⟨rfl, ⟨n54, rfl⟩⟩
        go_wp2_with fail
        refine (read_str _ a0 ⟨#[]⟩ true _ S2.out E5.out).mono ?_
        rintro e w' ⟨rfl, ⟨n35, rfl⟩⟩
        go_wp2_with fail
        refine (keysTenant_any _ w2 _).mono ?_
        rintro e w' ⟨rfl, ⟨n36, rfl⟩⟩
        go_wp2_with fail
        refine (read_str _ X ⟨#[]⟩ true _ w4 R.out).mono ?_
        rintro e w' ⟨rfl, ⟨n58, rfl⟩⟩
        go_wp2_with fail
        refine (keysCluster_any _ _ SX.out SY.out _).mono ?_
        rintro e w' ⟨rfl, ⟨n59, rfl⟩⟩
        go_wp2_with fail
        refine (keysTenant_any _ SX.out _).mono ?_
        rintro e w' ⟨rfl, ⟨n60, rfl⟩⟩
        go_wp2
        go_ret
        exact ⟨by first | rfl | simp, pw_below_drewN hx1 _⟩
  have E1 : Hid (clusterK a0.data.toList a1.data.toList = 99 :: 47 :: (a0.data.toList ++ 47 :: a1.data.toList)) := by
    have := clusterK_yes ha hb
    exact Lib.hid (by simpa using this)
  have E6 := Lib.hid hb
  have E7 : Hid (isKey (⟨(99 :: 47 :: (a0.data.toList ++ 47 :: a1.data.toList)).toArray⟩ : ByteArray).data.toList = true) := by
    have := isKey_cluster ha hb
    rw [E1.out] at this
    exact Lib.hid this
  have E8 : Hid (readK (⟨(99 :: 47 :: (a0.data.toList ++ 47 :: a1.data.toList)).toArray⟩ : ByteArray).data.toList = (a0.data.toList, a1.data.toList, true)) := by
    have := read_cluster ha hb
    rw [E1.out] at this
    exact Lib.hid this
  have S1 : Hid ((⟨(99 :: 47 :: (a0.data.toList ++ 47 :: a1.data.toList)).toArray⟩ : ByteArray).size ≤ 140737488351232) := by
    have := isName_len ha
    have := isName_len hb
    refine Lib.hid ?_
    rw [size_mk]
    simp
    omega
  have T2 : (99 :: 47 :: (a0.data.toList ++ 47 :: a1.data.toList) == tenantK a2.data.toList) = false := by
    have := cluster_tenant (c := a2.data.toList) ha hb
    rw [E1.out] at this
    exact this
  have T3 : (99 :: 47 :: (a0.data.toList ++ 47 :: a1.data.toList) == clusterK a2.data.toList a3.data.toList) = (a0.toList == a2.toList && a1.toList == a3.toList) := by
    have := cluster_inj (c := a2.data.toList) (d := a3.data.toList) ha hb
    rw [E1.out] at this
    rw [this, Lib.toList_data, Lib.toList_data, Lib.toList_data, Lib.toList_data]
  clear ha hb
  cases hac : (a0.toList == a2.toList)
  · rw [hac] at T1 T3
    rw [Bool.false_and] at T3
    rcases read_cases a4 with hr | ⟨X, Y, hX, hY, hr, hk | ⟨hY0, hk, ht⟩⟩
    · have R := Lib.hid hr
      clear hr
      go_enter Try.func4, Try.ntmps4
      go_wp2_with fail
      refine (awake_any _).mono ?_
      rintro e x1 ⟨rfl, hx1⟩
      go_wp2_with fail
      refine (cluster_lit _ _ _ _ w0 w1 E1.out).mono ?_
      rintro e w' ⟨rfl, ⟨n61, rfl⟩⟩
      go_wp2_with fail
      refine (tenant_lit _ _ _ w0 E2.out).mono ?_
      rintro e w' ⟨rfl, ⟨n62, rfl⟩⟩
      go_wp2_with fail
      refine (name_lit _ _ _ w0 E3.out).mono ?_
      rintro e w' ⟨rfl, ⟨n63, rfl⟩⟩
      go_wp2_with fail
      refine (name_lit _ _ _ w1 E6.out).mono ?_
      rintro e w' ⟨rfl, ⟨n64, rfl⟩⟩
      go_wp2_with fail
      refine (name_lit _ _ _ w0 E3.out).mono ?_
      rintro e w' ⟨rfl, ⟨n65, rfl⟩⟩
      go_wp2_with fail
      refine (key_lit _ _ _ S1.out E7.out).mono ?_
      rintro e w' ⟨rfl, ⟨n66, rfl⟩⟩
      go_wp2_with fail
      refine (key_lit _ _ _ S2.out E4.out).mono ?_
      rintro e w' ⟨rfl, ⟨n67, rfl⟩⟩
      go_wp2_with fail
      refine (read_str _ a0 a1 true _ S1.out E8.out).mono ?_
      rintro e w' ⟨rfl, ⟨n68, rfl⟩⟩
      go_wp2_with fail
      refine (keysCluster_any _ _ w2 w3 _).mono ?_
      rintro e w' ⟨rfl, ⟨n69, rfl⟩⟩
      go_wp2_with fail
      refine (keysTenant_any _ w2 _).mono ?_
      rintro e w' ⟨rfl, ⟨n70, rfl⟩⟩
      go_wp2_with fail
      refine (read_str _ a0 ⟨#[]⟩ true _ S2.out E5.out).mono ?_
      rintro e w' ⟨rfl, ⟨n35, rfl⟩⟩
      go_wp2_with fail
      refine (keysTenant_any _ w2 _).mono ?_
      rintro e w' ⟨rfl, ⟨n36, rfl⟩⟩
      go_wp2_with fail
      refine (read_lit _ _ _ _ _ w4 R.out).mono ?_
      rintro e w' ⟨rfl, ⟨n71, rfl⟩⟩
      go_wp2
      go_ret
      exact ⟨by first | rfl | simp, pw_below_drewN hx1 _⟩
    · have SX := Lib.hid (show X.size ≤ 140737488351232 by omega)
      have SY := Lib.hid (show Y.size ≤ 140737488351232 by omega)
      have R := Lib.hid hr
      have K1 : (a4.toList == clusterK X.data.toList Y.data.toList) = true := by rw [hk, Lib.toList_data]; exact beq_self_eq_true _
      clear hX hY hr hk
      go_enter Try.func4, Try.ntmps4
      go_wp2_with fail
      refine (awake_any _).mono ?_
      rintro e x1 ⟨rfl, hx1⟩
      go_wp2_with fail
      refine (cluster_lit _ _ _ _ w0 w1 E1.out).mono ?_
      rintro e w' ⟨rfl, ⟨n61, rfl⟩⟩
      go_wp2_with fail
      refine (tenant_lit _ _ _ w0 E2.out).mono ?_
      rintro e w' ⟨rfl, ⟨n62, rfl⟩⟩
      go_wp2_with fail
      refine (name_lit _ _ _ w0 E3.out).mono ?_
      rintro e w' ⟨rfl, ⟨n63, rfl⟩⟩
      go_wp2_with fail
      refine (name_lit _ _ _ w1 E6.out).mono ?_
      rintro e w' ⟨rfl, ⟨n64, rfl⟩⟩
      go_wp2_with fail
      refine (name_lit _ _ _ w0 E3.out).mono ?_
      rintro e w' ⟨rfl, ⟨n65, rfl⟩⟩
      go_wp2_with fail
      refine (key_lit _ _ _ S1.out E7.out).mono ?_
      rintro e w' ⟨rfl, ⟨n66, rfl⟩⟩
      go_wp2_with fail
      refine (key_lit _ _ _ S2.out E4.out).mono ?_
      rintro e w' ⟨rfl, ⟨n67, rfl⟩⟩
      go_wp2_with fail
      refine (read_str _ a0 a1 true _ S1.out E8.out).mono ?_
      rintro e w' ⟨rfl, ⟨n68, rfl⟩⟩
      go_wp2_with fail
      refine (keysCluster_any _ _ w2 w3 _).mono ?_
      rintro e w' ⟨rfl, ⟨n69, rfl⟩⟩
      go_wp2_with fail
      refine (keysTenant_any _ w2 _).mono ?_
      rintro e w' ⟨rfl, ⟨n70, rfl⟩⟩
      go_wp2_with fail
      refine (read_str _ a0 ⟨#[]⟩ true _ S2.out E5.out).mono ?_
      rintro e w' ⟨rfl, ⟨n35, rfl⟩⟩
      go_wp2_with fail
      refine (keysTenant_any _ w2 _).mono ?_
      rintro e w' ⟨rfl, ⟨n36, rfl⟩⟩
      go_wp2_with fail
      refine (read_str _ X Y true _ w4 R.out).mono ?_
      rintro e w' ⟨rfl, ⟨n72, rfl⟩⟩
      go_wp2_with fail
      refine (keysCluster_any _ _ SX.out SY.out _).mono ?_
      rintro e w' ⟨rfl, ⟨n73, rfl⟩⟩
      go_wp2
      go_ret
      exact ⟨by first | rfl | simp, pw_below_drewN hx1 _⟩
    · subst hY0
      have SX := Lib.hid (show X.size ≤ 140737488351232 by omega)
      have SY := Lib.hid (show (⟨#[]⟩ : ByteArray).size ≤ 140737488351232 by omega)
      have R := Lib.hid hr
      have K1 : (a4.toList == clusterK X.data.toList (⟨#[]⟩ : ByteArray).data.toList) = false := by rw [beq_eq_false_iff_ne, Lib.toList_data]; exact fun h => hk h.symm
      have K2 : (a4.toList == tenantK X.data.toList) = true := by rw [ht, Lib.toList_data]; exact beq_self_eq_true _
      clear hX hY hr hk ht
      go_enter Try.func4, Try.ntmps4
      go_wp2_with fail
      refine (awake_any _).mono ?_
      rintro e x1 ⟨rfl, hx1⟩
      go_wp2_with fail
      refine (cluster_lit _ _ _ _ w0 w1 E1.out).mono ?_
      rintro e w' ⟨rfl, ⟨n61, rfl⟩⟩
      go_wp2_with fail
      refine (tenant_lit _ _ _ w0 E2.out).mono ?_
      rintro e w' ⟨rfl, ⟨n62, rfl⟩⟩
      go_wp2_with fail
      refine (name_lit _ _ _ w0 E3.out).mono ?_
      rintro e w' ⟨rfl, ⟨n63, rfl⟩⟩
      go_wp2_with fail
      refine (name_lit _ _ _ w1 E6.out).mono ?_
      rintro e w' ⟨rfl, ⟨n64, rfl⟩⟩
      go_wp2_with fail
      refine (name_lit _ _ _ w0 E3.out).mono ?_
      rintro e w' ⟨rfl, ⟨n65, rfl⟩⟩
      go_wp2_with fail
      refine (key_lit _ _ _ S1.out E7.out).mono ?_
      rintro e w' ⟨rfl, ⟨n66, rfl⟩⟩
      go_wp2_with fail
      refine (key_lit _ _ _ S2.out E4.out).mono ?_
      rintro e w' ⟨rfl, ⟨n67, rfl⟩⟩
      go_wp2_with fail
      refine (read_str _ a0 a1 true _ S1.out E8.out).mono ?_
      rintro e w' ⟨rfl, ⟨n68, rfl⟩⟩
      go_wp2_with fail
      refine (keysCluster_any _ _ w2 w3 _).mono ?_
      rintro e w' ⟨rfl, ⟨n69, rfl⟩⟩
      go_wp2_with fail
      refine (keysTenant_any _ w2 _).mono ?_
      rintro e w' ⟨rfl, ⟨n70, rfl⟩⟩
      go_wp2_with fail
      refine (read_str _ a0 ⟨#[]⟩ true _ S2.out E5.out).mono ?_
      rintro e w' ⟨rfl, ⟨n35, rfl⟩⟩
      go_wp2_with fail
      refine (keysTenant_any _ w2 _).mono ?_
      rintro e w' ⟨rfl, ⟨n36, rfl⟩⟩
      go_wp2_with fail
      refine (read_str _ X ⟨#[]⟩ true _ w4 R.out).mono ?_
      rintro e w' ⟨rfl, ⟨n74, rfl⟩⟩
      go_wp2_with fail
      refine (keysCluster_any _ _ SX.out SY.out _).mono ?_
      rintro e w' ⟨rfl, ⟨n75, rfl⟩⟩
      go_wp2_with fail
      refine (keysTenant_any _ SX.out _).mono ?_
      rintro e w' ⟨rfl, ⟨n76, rfl⟩⟩
      go_wp2
      go_ret
      exact ⟨by first | rfl | simp, pw_below_drewN hx1 _⟩
  · rw [hac] at T1 T3
    rw [Bool.true_and] at T3
    cases hbd : (a1.toList == a3.toList)
    · rw [hbd] at T3
      rcases read_cases a4 with hr | ⟨X, Y, hX, hY, hr, hk | ⟨hY0, hk, ht⟩⟩
      · have R := Lib.hid hr
        clear hr
        go_enter Try.func4, Try.ntmps4
        go_wp2_with fail
        refine (awake_any _).mono ?_
        rintro e x1 ⟨rfl, hx1⟩
        go_wp2_with fail
        refine (cluster_lit _ _ _ _ w0 w1 E1.out).mono ?_
        rintro e w' ⟨rfl, ⟨n61, rfl⟩⟩
        go_wp2_with fail
        refine (tenant_lit _ _ _ w0 E2.out).mono ?_
        rintro e w' ⟨rfl, ⟨n62, rfl⟩⟩
        go_wp2_with fail
        refine (name_lit _ _ _ w0 E3.out).mono ?_
        rintro e w' ⟨rfl, ⟨n63, rfl⟩⟩
        go_wp2_with fail
        refine (name_lit _ _ _ w1 E6.out).mono ?_
        rintro e w' ⟨rfl, ⟨n64, rfl⟩⟩
        go_wp2_with fail
        refine (name_lit _ _ _ w0 E3.out).mono ?_
        rintro e w' ⟨rfl, ⟨n65, rfl⟩⟩
        go_wp2_with fail
        refine (key_lit _ _ _ S1.out E7.out).mono ?_
        rintro e w' ⟨rfl, ⟨n66, rfl⟩⟩
        go_wp2_with fail
        refine (key_lit _ _ _ S2.out E4.out).mono ?_
        rintro e w' ⟨rfl, ⟨n67, rfl⟩⟩
        go_wp2_with fail
        refine (read_str _ a0 a1 true _ S1.out E8.out).mono ?_
        rintro e w' ⟨rfl, ⟨n68, rfl⟩⟩
        go_wp2_with fail
        refine (keysCluster_any _ _ w2 w3 _).mono ?_
        rintro e w' ⟨rfl, ⟨n69, rfl⟩⟩
        go_wp2_with fail
        refine (keysTenant_any _ w2 _).mono ?_
        rintro e w' ⟨rfl, ⟨n70, rfl⟩⟩
        go_wp2_with fail
        refine (read_str _ a0 ⟨#[]⟩ true _ S2.out E5.out).mono ?_
        rintro e w' ⟨rfl, ⟨n35, rfl⟩⟩
        go_wp2_with fail
        refine (keysTenant_any _ w2 _).mono ?_
        rintro e w' ⟨rfl, ⟨n36, rfl⟩⟩
        go_wp2_with fail
        refine (read_lit _ _ _ _ _ w4 R.out).mono ?_
        rintro e w' ⟨rfl, ⟨n77, rfl⟩⟩
        go_wp2
        go_ret
        exact ⟨by first | rfl | simp, pw_below_drewN hx1 _⟩
      · have SX := Lib.hid (show X.size ≤ 140737488351232 by omega)
        have SY := Lib.hid (show Y.size ≤ 140737488351232 by omega)
        have R := Lib.hid hr
        have K1 : (a4.toList == clusterK X.data.toList Y.data.toList) = true := by rw [hk, Lib.toList_data]; exact beq_self_eq_true _
        clear hX hY hr hk
        go_enter Try.func4, Try.ntmps4
        go_wp2_with fail
        refine (awake_any _).mono ?_
        rintro e x1 ⟨rfl, hx1⟩
        go_wp2_with fail
        refine (cluster_lit _ _ _ _ w0 w1 E1.out).mono ?_
        rintro e w' ⟨rfl, ⟨n61, rfl⟩⟩
        go_wp2_with fail
        refine (tenant_lit _ _ _ w0 E2.out).mono ?_
        rintro e w' ⟨rfl, ⟨n62, rfl⟩⟩
        go_wp2_with fail
        refine (name_lit _ _ _ w0 E3.out).mono ?_
        rintro e w' ⟨rfl, ⟨n63, rfl⟩⟩
        go_wp2_with fail
        refine (name_lit _ _ _ w1 E6.out).mono ?_
        rintro e w' ⟨rfl, ⟨n64, rfl⟩⟩
        go_wp2_with fail
        refine (name_lit _ _ _ w0 E3.out).mono ?_
        rintro e w' ⟨rfl, ⟨n65, rfl⟩⟩
        go_wp2_with fail
        refine (key_lit _ _ _ S1.out E7.out).mono ?_
        rintro e w' ⟨rfl, ⟨n66, rfl⟩⟩
        go_wp2_with fail
        refine (key_lit _ _ _ S2.out E4.out).mono ?_
        rintro e w' ⟨rfl, ⟨n67, rfl⟩⟩
        go_wp2_with fail
        refine (read_str _ a0 a1 true _ S1.out E8.out).mono ?_
        rintro e w' ⟨rfl, ⟨n68, rfl⟩⟩
        go_wp2_with fail
        refine (keysCluster_any _ _ w2 w3 _).mono ?_
        rintro e w' ⟨rfl, ⟨n69, rfl⟩⟩
        go_wp2_with fail
        refine (keysTenant_any _ w2 _).mono ?_
        rintro e w' ⟨rfl, ⟨n70, rfl⟩⟩
        go_wp2_with fail
        refine (read_str _ a0 ⟨#[]⟩ true _ S2.out E5.out).mono ?_
        rintro e w' ⟨rfl, ⟨n35, rfl⟩⟩
        go_wp2_with fail
        refine (keysTenant_any _ w2 _).mono ?_
        rintro e w' ⟨rfl, ⟨n36, rfl⟩⟩
        go_wp2_with fail
        refine (read_str _ X Y true _ w4 R.out).mono ?_
        rintro e w' ⟨rfl, ⟨n78, rfl⟩⟩
        go_wp2_with fail
        refine (keysCluster_any _ _ SX.out SY.out _).mono ?_
        rintro e w' ⟨rfl, ⟨n79, rfl⟩⟩
        go_wp2
        go_ret
        exact ⟨by first | rfl | simp, pw_below_drewN hx1 _⟩
      · subst hY0
        have SX := Lib.hid (show X.size ≤ 140737488351232 by omega)
        have SY := Lib.hid (show (⟨#[]⟩ : ByteArray).size ≤ 140737488351232 by omega)
        have R := Lib.hid hr
        have K1 : (a4.toList == clusterK X.data.toList (⟨#[]⟩ : ByteArray).data.toList) = false := by rw [beq_eq_false_iff_ne, Lib.toList_data]; exact fun h => hk h.symm
        have K2 : (a4.toList == tenantK X.data.toList) = true := by rw [ht, Lib.toList_data]; exact beq_self_eq_true _
        clear hX hY hr hk ht
        go_enter Try.func4, Try.ntmps4
        go_wp2_with fail
        refine (awake_any _).mono ?_
        rintro e x1 ⟨rfl, hx1⟩
        go_wp2_with fail
        refine (cluster_lit _ _ _ _ w0 w1 E1.out).mono ?_
        rintro e w' ⟨rfl, ⟨n61, rfl⟩⟩
        go_wp2_with fail
        refine (tenant_lit _ _ _ w0 E2.out).mono ?_
        rintro e w' ⟨rfl, ⟨n62, rfl⟩⟩
        go_wp2_with fail
        refine (name_lit _ _ _ w0 E3.out).mono ?_
        rintro e w' ⟨rfl, ⟨n63, rfl⟩⟩
        go_wp2_with fail
        refine (name_lit _ _ _ w1 E6.out).mono ?_
        rintro e w' ⟨rfl, ⟨n64, rfl⟩⟩
        go_wp2_with fail
        refine (name_lit _ _ _ w0 E3.out).mono ?_
        rintro e w' ⟨rfl, ⟨n65, rfl⟩⟩
        go_wp2_with fail
        refine (key_lit _ _ _ S1.out E7.out).mono ?_
        rintro e w' ⟨rfl, ⟨n66, rfl⟩⟩
        go_wp2_with fail
        refine (key_lit _ _ _ S2.out E4.out).mono ?_
        rintro e w' ⟨rfl, ⟨n67, rfl⟩⟩
        go_wp2_with fail
        refine (read_str _ a0 a1 true _ S1.out E8.out).mono ?_
        rintro e w' ⟨rfl, ⟨n68, rfl⟩⟩
        go_wp2_with fail
        refine (keysCluster_any _ _ w2 w3 _).mono ?_
        rintro e w' ⟨rfl, ⟨n69, rfl⟩⟩
        go_wp2_with fail
        refine (keysTenant_any _ w2 _).mono ?_
        rintro e w' ⟨rfl, ⟨n70, rfl⟩⟩
        go_wp2_with fail
        refine (read_str _ a0 ⟨#[]⟩ true _ S2.out E5.out).mono ?_
        rintro e w' ⟨rfl, ⟨n35, rfl⟩⟩
        go_wp2_with fail
        refine (keysTenant_any _ w2 _).mono ?_
        rintro e w' ⟨rfl, ⟨n36, rfl⟩⟩
        go_wp2_with fail
        refine (read_str _ X ⟨#[]⟩ true _ w4 R.out).mono ?_
        rintro e w' ⟨rfl, ⟨n80, rfl⟩⟩
        go_wp2_with fail
        refine (keysCluster_any _ _ SX.out SY.out _).mono ?_
        rintro e w' ⟨rfl, ⟨n81, rfl⟩⟩
        go_wp2_with fail
        refine (keysTenant_any _ SX.out _).mono ?_
        rintro e w' ⟨rfl, ⟨n82, rfl⟩⟩
        go_wp2
        go_ret
        exact ⟨by first | rfl | simp, pw_below_drewN hx1 _⟩
    · rw [hbd] at T3
      rcases read_cases a4 with hr | ⟨X, Y, hX, hY, hr, hk | ⟨hY0, hk, ht⟩⟩
      · have R := Lib.hid hr
        clear hr
        go_enter Try.func4, Try.ntmps4
        go_wp2_with fail
        refine (awake_any _).mono ?_
        rintro e x1 ⟨rfl, hx1⟩
        go_wp2_with fail
        refine (cluster_lit _ _ _ _ w0 w1 E1.out).mono ?_
        rintro e w' ⟨rfl, ⟨n61, rfl⟩⟩
        go_wp2_with fail
        refine (tenant_lit _ _ _ w0 E2.out).mono ?_
        rintro e w' ⟨rfl, ⟨n62, rfl⟩⟩
        go_wp2_with fail
        refine (name_lit _ _ _ w0 E3.out).mono ?_
        rintro e w' ⟨rfl, ⟨n63, rfl⟩⟩
        go_wp2_with fail
        refine (name_lit _ _ _ w1 E6.out).mono ?_
        rintro e w' ⟨rfl, ⟨n64, rfl⟩⟩
        go_wp2_with fail
        refine (name_lit _ _ _ w0 E3.out).mono ?_
        rintro e w' ⟨rfl, ⟨n65, rfl⟩⟩
        go_wp2_with fail
        refine (key_lit _ _ _ S1.out E7.out).mono ?_
        rintro e w' ⟨rfl, ⟨n66, rfl⟩⟩
        go_wp2_with fail
        refine (key_lit _ _ _ S2.out E4.out).mono ?_
        rintro e w' ⟨rfl, ⟨n67, rfl⟩⟩
        go_wp2_with fail
        refine (read_str _ a0 a1 true _ S1.out E8.out).mono ?_
        rintro e w' ⟨rfl, ⟨n68, rfl⟩⟩
        go_wp2_with fail
        refine (keysCluster_any _ _ w2 w3 _).mono ?_
        rintro e w' ⟨rfl, ⟨n69, rfl⟩⟩
        go_wp2_with fail
        refine (keysTenant_any _ w2 _).mono ?_
        rintro e w' ⟨rfl, ⟨n70, rfl⟩⟩
        go_wp2_with fail
        refine (read_str _ a0 ⟨#[]⟩ true _ S2.out E5.out).mono ?_
        rintro e w' ⟨rfl, ⟨n35, rfl⟩⟩
        go_wp2_with fail
        refine (keysTenant_any _ w2 _).mono ?_
        rintro e w' ⟨rfl, ⟨n36, rfl⟩⟩
        go_wp2_with fail
        refine (read_lit _ _ _ _ _ w4 R.out).mono ?_
        rintro e w' ⟨rfl, ⟨n83, rfl⟩⟩
        go_wp2
        go_ret
        exact ⟨by first | rfl | simp, pw_below_drewN hx1 _⟩
      · have SX := Lib.hid (show X.size ≤ 140737488351232 by omega)
        have SY := Lib.hid (show Y.size ≤ 140737488351232 by omega)
        have R := Lib.hid hr
        have K1 : (a4.toList == clusterK X.data.toList Y.data.toList) = true := by rw [hk, Lib.toList_data]; exact beq_self_eq_true _
        clear hX hY hr hk
        go_enter Try.func4, Try.ntmps4
        go_wp2_with fail
        refine (awake_any _).mono ?_
        rintro e x1 ⟨rfl, hx1⟩
        go_wp2_with fail
        refine (cluster_lit _ _ _ _ w0 w1 E1.out).mono ?_
        rintro e w' ⟨rfl, ⟨n61, rfl⟩⟩
        go_wp2_with fail
        refine (tenant_lit _ _ _ w0 E2.out).mono ?_
        rintro e w' ⟨rfl, ⟨n62, rfl⟩⟩
        go_wp2_with fail
        refine (name_lit _ _ _ w0 E3.out).mono ?_
        rintro e w' ⟨rfl, ⟨n63, rfl⟩⟩
        go_wp2_with fail
        refine (name_lit _ _ _ w1 E6.out).mono ?_
        rintro e w' ⟨rfl, ⟨n64, rfl⟩⟩
        go_wp2_with fail
        refine (name_lit _ _ _ w0 E3.out).mono ?_
        rintro e w' ⟨rfl, ⟨n65, rfl⟩⟩
        go_wp2_with fail
        refine (key_lit _ _ _ S1.out E7.out).mono ?_
        rintro e w' ⟨rfl, ⟨n66, rfl⟩⟩
        go_wp2_with fail
        refine (key_lit _ _ _ S2.out E4.out).mono ?_
        rintro e w' ⟨rfl, ⟨n67, rfl⟩⟩
        go_wp2_with fail
        refine (read_str _ a0 a1 true _ S1.out E8.out).mono ?_
        rintro e w' ⟨rfl, ⟨n68, rfl⟩⟩
        go_wp2_with fail
        refine (keysCluster_any _ _ w2 w3 _).mono ?_
        rintro e w' ⟨rfl, ⟨n69, rfl⟩⟩
        go_wp2_with fail
        refine (keysTenant_any _ w2 _).mono ?_
        rintro e w' ⟨rfl, ⟨n70, rfl⟩⟩
        go_wp2_with fail
        refine (read_str _ a0 ⟨#[]⟩ true _ S2.out E5.out).mono ?_
        rintro e w' ⟨rfl, ⟨n35, rfl⟩⟩
        go_wp2_with fail
        refine (keysTenant_any _ w2 _).mono ?_
        rintro e w' ⟨rfl, ⟨n36, rfl⟩⟩
        go_wp2_with fail
        refine (read_str _ X Y true _ w4 R.out).mono ?_
        rintro e w' ⟨rfl, ⟨n84, rfl⟩⟩
        go_wp2_with fail
        refine (keysCluster_any _ _ SX.out SY.out _).mono ?_
        rintro e w' ⟨rfl, ⟨n85, rfl⟩⟩
        go_wp2
        go_ret
        exact ⟨by first | rfl | simp, pw_below_drewN hx1 _⟩
      · subst hY0
        have SX := Lib.hid (show X.size ≤ 140737488351232 by omega)
        have SY := Lib.hid (show (⟨#[]⟩ : ByteArray).size ≤ 140737488351232 by omega)
        have R := Lib.hid hr
        have K1 : (a4.toList == clusterK X.data.toList (⟨#[]⟩ : ByteArray).data.toList) = false := by rw [beq_eq_false_iff_ne, Lib.toList_data]; exact fun h => hk h.symm
        have K2 : (a4.toList == tenantK X.data.toList) = true := by rw [ht, Lib.toList_data]; exact beq_self_eq_true _
        clear hX hY hr hk ht
        go_enter Try.func4, Try.ntmps4
        go_wp2_with fail
        refine (awake_any _).mono ?_
        rintro e x1 ⟨rfl, hx1⟩
        go_wp2_with fail
        refine (cluster_lit _ _ _ _ w0 w1 E1.out).mono ?_
        rintro e w' ⟨rfl, ⟨n61, rfl⟩⟩
        go_wp2_with fail
        refine (tenant_lit _ _ _ w0 E2.out).mono ?_
        rintro e w' ⟨rfl, ⟨n62, rfl⟩⟩
        go_wp2_with fail
        refine (name_lit _ _ _ w0 E3.out).mono ?_
        rintro e w' ⟨rfl, ⟨n63, rfl⟩⟩
        go_wp2_with fail
        refine (name_lit _ _ _ w1 E6.out).mono ?_
        rintro e w' ⟨rfl, ⟨n64, rfl⟩⟩
        go_wp2_with fail
        refine (name_lit _ _ _ w0 E3.out).mono ?_
        rintro e w' ⟨rfl, ⟨n65, rfl⟩⟩
        go_wp2_with fail
        refine (key_lit _ _ _ S1.out E7.out).mono ?_
        rintro e w' ⟨rfl, ⟨n66, rfl⟩⟩
        go_wp2_with fail
        refine (key_lit _ _ _ S2.out E4.out).mono ?_
        rintro e w' ⟨rfl, ⟨n67, rfl⟩⟩
        go_wp2_with fail
        refine (read_str _ a0 a1 true _ S1.out E8.out).mono ?_
        rintro e w' ⟨rfl, ⟨n68, rfl⟩⟩
        go_wp2_with fail
        refine (keysCluster_any _ _ w2 w3 _).mono ?_
        rintro e w' ⟨rfl, ⟨n69, rfl⟩⟩
        go_wp2_with fail
        refine (keysTenant_any _ w2 _).mono ?_
        rintro e w' ⟨rfl, ⟨n70, rfl⟩⟩
        go_wp2_with fail
        refine (read_str _ a0 ⟨#[]⟩ true _ S2.out E5.out).mono ?_
        rintro e w' ⟨rfl, ⟨n35, rfl⟩⟩
        go_wp2_with fail
        refine (keysTenant_any _ w2 _).mono ?_
        rintro e w' ⟨rfl, ⟨n36, rfl⟩⟩
        go_wp2_with fail
        refine (read_str _ X ⟨#[]⟩ true _ w4 R.out).mono ?_
        rintro e w' ⟨rfl, ⟨n86, rfl⟩⟩
        go_wp2_with fail
        refine (keysCluster_any _ _ SX.out SY.out _).mono ?_
        rintro e w' ⟨rfl, ⟨n87, rfl⟩⟩
        go_wp2_with fail
        refine (keysTenant_any _ SX.out _).mono ?_
        rintro e w' ⟨rfl, ⟨n88, rfl⟩⟩
        go_wp2
        go_ret
        exact ⟨by first | rfl | simp, pw_below_drewN hx1 _⟩
end Go.Proofs.Ytidcdijplbopeaa.KP
