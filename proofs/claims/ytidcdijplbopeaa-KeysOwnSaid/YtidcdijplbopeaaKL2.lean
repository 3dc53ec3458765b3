import Derived.Test.YtidcdijplbopeaaKQ
namespace Go.Proofs.Ytidcdijplbopeaa.KP
open Go.RowKit Go.Proofs.Ytidcdijplbopeaa.PAll Go.Proofs.YtidcdijplbopeaaW.PrintWords Go.Proofs.YtidcdijplbopeaaW.PrintLast
set_option maxHeartbeats 16000000 in
set_option maxRecDepth 100000 in
theorem KeysBetween_walk (a0 a1 : ByteArray) (w : World) (w0 : a0.size ≤ 140737488351232) (w1 : a1.size ≤ 140737488351232) :
    Calls Try.prog 8 #[.string a0, .string a1] w fun e w' => e = .returned (.bool true) ∧ Below w.heap.size w w' := by
  by_cases g0 : 3000 < a0.size
  · go_enter Try.func8, Try.ntmps8
    go_wp2_with fail
    refine (awake_any _).mono ?_
    rintro e x1 ⟨rfl, hx1⟩
    go_wp2
    go_ret
    exact ⟨rfl, hx1⟩
  by_cases g1 : 3000 < a1.size
  · go_enter Try.func8, Try.ntmps8
    go_wp2_with fail
    refine (awake_any _).mono ?_
    rintro e x1 ⟨rfl, hx1⟩
    go_wp2
    go_ret
    exact ⟨rfl, hx1⟩
  by_cases hn : a1.data.toList = []
  · have e1 : endK a1.data.toList = [] := end_nil (.inl hn)
    have e2 : isPrefix a1.data.toList = true := by rw [hn]; rfl
    have e3 : (a1.toList == []) = true := by rw [Lib.toList_data, hn]; rfl
    have E1 := Lib.hid e1
    have E2 := Lib.hid e2
    clear e1 e2 hn
    go_enter Try.func8, Try.ntmps8
    go_wp2_with fail
    refine (awake_any _).mono ?_
    rintro e x1 ⟨rfl, hx1⟩
    go_wp2_with fail
    refine (end_lit _ _ _ w1 E1.out).mono ?_
    rintro e x2 ⟨rfl, hx2⟩
    go_wp2_with fail
    refine (prefix_lit _ _ _ w1 E2.out).mono ?_
    rintro e w' ⟨rfl, ⟨n1, rfl⟩⟩
    go_wp2
    go_ret
    have k2 : Below w.heap.size w x2 := hx1.trans (hx2.mono hx1.size)
    exact ⟨rfl, pw_below_drewN k2 _⟩
  have e3 : (a1.toList == []) = false := by rw [Lib.toList_data, beq_eq_false_iff_ne]; exact hn
  cases hp : isPrefix a1.data.toList
  · have E1 := Lib.hid (end_nil (.inr hp))
    have E2 := Lib.hid hp
    clear hp hn
    go_enter Try.func8, Try.ntmps8
    go_wp2_with fail
    refine (awake_any _).mono ?_
    rintro e x1 ⟨rfl, hx1⟩
    go_wp2_with fail
    refine (end_lit _ _ _ w1 E1.out).mono ?_
    rintro e x2 ⟨rfl, hx2⟩
    go_wp2_with fail
    refine (prefix_lit _ _ _ w1 E2.out).mono ?_
    rintro e w' ⟨rfl, ⟨n2, rfl⟩⟩
    go_wp2
    go_ret
    have k2 : Below w.heap.size w x2 := hx1.trans (hx2.mono hx1.size)
    exact ⟨rfl, pw_below_drewN k2 _⟩
  · obtain ⟨q1, q2, q3, q4, q5⟩ := end_laws hn hp
    have E2 := Lib.hid hp
    have E5 := Lib.hid (q5 a0.data.toList)
    generalize hE : endK a1.data.toList = E at *
    have E1 := Lib.hid hE
    clear hE hp hn q5
    have f1 : Op.bytesLess E a1.toList = false := by rw [Lib.toList_data]; exact q2
    have f2 : (E == a1.toList) = false := by rw [Lib.toList_data, beq_eq_false_iff_ne]; exact q3
    have f3 : ((E.length : Int) != (a1.size : Int)) = false := by
      rw [bne_eq_false_iff_eq, q4, Lib.size_eq]
    clear q1 q2 q3 q4
    cases hk : isKey a0.data.toList
    · have E6 := Lib.hid hk
      clear hk
      go_enter Try.func8, Try.ntmps8
      go_wp2_with fail
      refine (awake_any _).mono ?_
      rintro e x1 ⟨rfl, hx1⟩
      go_wp2_with fail
      refine (end_lit _ _ _ w1 E1.out).mono ?_
      rintro e x2 ⟨rfl, hx2⟩
      go_wp2_with fail
      refine (prefix_lit _ _ _ w1 E2.out).mono ?_
      rintro e w' ⟨rfl, ⟨n3, rfl⟩⟩
      go_wp2_with fail
      refine (key_lit _ _ _ w0 E6.out).mono ?_
      rintro e w' ⟨rfl, ⟨n4, rfl⟩⟩
      go_wp2
      go_ret
      have k2 : Below w.heap.size w x2 := hx1.trans (hx2.mono hx1.size)
      exact ⟨rfl, pw_below_drewN k2 _⟩
    · have E6 := Lib.hid hk
      clear hk
      rw [← Lib.toList_data, ← Lib.toList_data] at E5
      cases hl : Op.bytesLess a0.toList a1.toList
      · have E7 : Hid (beginsK a0.data.toList a1.data.toList = Op.bytesLess a0.toList E) := by
          have := E5.out
          rw [hl, Bool.not_false, Bool.true_and, Lib.toList_data, Lib.toList_data] at this
          rw [Lib.toList_data]
          exact this
        clear E5
        go_enter Try.func8, Try.ntmps8
        go_wp2_with fail
        refine (awake_any _).mono ?_
        rintro e x1 ⟨rfl, hx1⟩
        go_wp2_with fail
        refine (end_lit _ _ _ w1 E1.out).mono ?_
        rintro e x2 ⟨rfl, hx2⟩
        go_wp2_with fail
        refine (prefix_lit _ _ _ w1 E2.out).mono ?_
        rintro e w' ⟨rfl, ⟨n5, rfl⟩⟩
        go_wp2_with fail
        refine (key_lit _ _ _ w0 E6.out).mono ?_
        rintro e w' ⟨rfl, ⟨n6, rfl⟩⟩
        go_wp2_with fail
        refine (begins_lit _ _ _ _ E7.out).mono ?_
        rintro e w' ⟨rfl, ⟨n7, rfl⟩⟩
        go_wp2
        go_ret
        have k2 : Below w.heap.size w x2 := hx1.trans (hx2.mono hx1.size)
        exact ⟨by simp, pw_below_drewN k2 _⟩
      · have E7 : Hid (beginsK a0.data.toList a1.data.toList = false) := by
          have := E5.out
          rw [hl, Bool.not_true, Bool.false_and, Lib.toList_data, Lib.toList_data] at this
          exact this
        clear E5
        go_enter Try.func8, Try.ntmps8
        go_wp2_with fail
        refine (awake_any _).mono ?_
        rintro e x1 ⟨rfl, hx1⟩
        go_wp2_with fail
        refine (end_lit _ _ _ w1 E1.out).mono ?_
        rintro e x2 ⟨rfl, hx2⟩
        go_wp2_with fail
        refine (prefix_lit _ _ _ w1 E2.out).mono ?_
        rintro e w' ⟨rfl, ⟨n8, rfl⟩⟩
        go_wp2_with fail
        refine (key_lit _ _ _ w0 E6.out).mono ?_
        rintro e w' ⟨rfl, ⟨n9, rfl⟩⟩
        go_wp2_with fail
        refine (begins_lit _ _ _ _ E7.out).mono ?_
        rintro e w' ⟨rfl, ⟨n10, rfl⟩⟩
        go_wp2
        go_ret
        have k2 : Below w.heap.size w x2 := hx1.trans (hx2.mono hx1.size)
        exact ⟨by simp, pw_below_drewN k2 _⟩
set_option maxHeartbeats 16000000 in
set_option maxRecDepth 100000 in
theorem KeysOwn_walk (a0 a1 a2 a3 : ByteArray) (w : World) (w0 : a0.size ≤ 140737488351232) (w1 : a1.size ≤ 140737488351232) (w2 : a2.size ≤ 140737488351232) (w3 : a3.size ≤ 140737488351232) :
    Calls Try.prog 9 #[.string a0, .string a1, .string a2, .string a3] w fun e w' => e = .returned (.bool true) ∧ Below w.heap.size w w' := by
  by_cases g0 : 3000 < a0.size
  · go_enter Try.func9, Try.ntmps9
    go_wp2_with fail
    refine (awake_any _).mono ?_
    rintro e x1 ⟨rfl, hx1⟩
    go_wp2
    go_ret
    exact ⟨rfl, hx1⟩
  by_cases g1 : 3000 < a1.size
  · go_enter Try.func9, Try.ntmps9
    go_wp2_with fail
    refine (awake_any _).mono ?_
    rintro e x1 ⟨rfl, hx1⟩
    go_wp2
    go_ret
    exact ⟨rfl, hx1⟩
  by_cases g2 : 3000 < a2.size
  · go_enter Try.func9, Try.ntmps9
    go_wp2_with fail
    refine (awake_any _).mono ?_
    rintro e x1 ⟨rfl, hx1⟩
    go_wp2
    go_ret
    exact ⟨rfl, hx1⟩
  by_cases g3 : 3000 < a3.size
  · go_enter Try.func9, Try.ntmps9
    go_wp2_with fail
    refine (awake_any _).mono ?_
    rintro e x1 ⟨rfl, hx1⟩
    go_wp2
    go_ret
    exact ⟨rfl, hx1⟩
  cases ha : isName a0.data.toList
  · have E1 := Lib.hid (clustersK_no ha)
    have E2 := Lib.hid ha
    clear ha
    go_enter Try.func9, Try.ntmps9
    go_wp2_with fail
    refine (awake_any _).mono ?_
    rintro e x1 ⟨rfl, hx1⟩
    go_wp2_with fail
    refine (clusters_lit _ _ _ w0 E1.out).mono ?_
    rintro e w' ⟨rfl, ⟨n11, rfl⟩⟩
    go_wp2_with fail
    refine (keysCluster_any _ _ w2 w3 _).mono ?_
    rintro e w' ⟨rfl, ⟨n12, rfl⟩⟩
    go_wp2_with fail
    refine (name_lit _ _ _ w0 E2.out).mono ?_
    rintro e w' ⟨rfl, ⟨n13, rfl⟩⟩
    go_wp2
    go_ret
    exact ⟨by first | rfl | simp, pw_below_drewN hx1 _⟩
  have E1 : Hid (clustersK a0.data.toList = 99 :: 47 :: (a0.data.toList ++ [47])) := clustersK_yes ha
  have E2 := Lib.hid ha
  have E3 : Hid (isPrefix (⟨(99 :: 47 :: (a0.data.toList ++ [47])).toArray⟩ : ByteArray).data.toList = true) := by
    have := isPrefix_clusters ha
    rw [clustersK_yes ha] at this
    exact this
  have s3 : (⟨(99 :: 47 :: (a0.data.toList ++ [47])).toArray⟩ : ByteArray).size ≤ 140737488351232 := by
    have := isName_len ha
    rw [size_mk]
    simp
    omega
  have S3 := Lib.hid s3
  clear s3
  by_cases hcd : isName a2.data.toList = true ∧ isName a3.data.toList = true
  · obtain ⟨hc, hd⟩ := hcd
    have E4 : Hid (clusterK a2.data.toList a3.data.toList = 99 :: 47 :: (a2.data.toList ++ 47 :: a3.data.toList)) := by
      have := clusterK_yes hc hd
      exact Lib.hid (by simpa using this)
    have b1 := begins_own ha hc hd
    have b2 := begins_tenant (c := a2.data.toList) ha
    rw [E1.out, E4.out] at b1
    rw [E1.out] at b2
    have E5 : Hid (beginsK (⟨(99 :: 47 :: (a2.data.toList ++ 47 :: a3.data.toList)).toArray⟩ : ByteArray).data.toList (⟨(99 :: 47 :: (a0.data.toList ++ [47])).toArray⟩ : ByteArray).data.toList = (a0.toList == a2.toList)) := by
      rw [Lib.toList_data, Lib.toList_data]
      exact b1
    have E6 : Hid (beginsK (⟨(tenantK a2.data.toList).toArray⟩ : ByteArray).data.toList (⟨(99 :: 47 :: (a0.data.toList ++ [47])).toArray⟩ : ByteArray).data.toList = false) := b2
    clear b1 b2 ha hc hd
    go_enter Try.func9, Try.ntmps9
    go_wp2_with fail
    refine (awake_any _).mono ?_
    rintro e x1 ⟨rfl, hx1⟩
    go_wp2_with fail
    refine (clusters_lit _ _ _ w0 E1.out).mono ?_
    rintro e w' ⟨rfl, ⟨n14, rfl⟩⟩
    go_wp2_with fail
    refine (cluster_lit _ _ _ _ w2 w3 E4.out).mono ?_
    rintro e w' ⟨rfl, ⟨n15, rfl⟩⟩
    go_wp2_with fail
    refine (name_lit _ _ _ w0 E2.out).mono ?_
    rintro e w' ⟨rfl, ⟨n16, rfl⟩⟩
    go_wp2_with fail
    refine (prefix_lit _ _ _ S3.out E3.out).mono ?_
    rintro e w' ⟨rfl, ⟨n17, rfl⟩⟩
    go_wp2_with fail
    refine (begins_lit _ _ _ _ E5.out).mono ?_
    rintro e w' ⟨rfl, ⟨n18, rfl⟩⟩
    go_wp2_with fail
    refine (keysTenant_any _ w2 _).mono ?_
    rintro e w' ⟨rfl, ⟨n19, rfl⟩⟩
    go_wp2_with fail
    refine (begins_lit _ _ _ _ E6.out).mono ?_
    rintro e w' ⟨rfl, ⟨n20, rfl⟩⟩
    go_wp2
    go_ret
    exact ⟨by first | rfl | simp, pw_below_drewN hx1 _⟩
  · have E4 : Hid (clusterK a2.data.toList a3.data.toList = []) := by
      apply clusterK_no
      cases h : isName a2.data.toList
      · exact .inl rfl
      · cases k : isName a3.data.toList
        · exact .inr rfl
        · exact absurd ⟨h, k⟩ hcd
    clear hcd ha
    go_enter Try.func9, Try.ntmps9
    go_wp2_with fail
    refine (awake_any _).mono ?_
    rintro e x1 ⟨rfl, hx1⟩
    go_wp2_with fail
    refine (clusters_lit _ _ _ w0 E1.out).mono ?_
    rintro e w' ⟨rfl, ⟨n21, rfl⟩⟩
    go_wp2_with fail
    refine (cluster_lit _ _ _ _ w2 w3 E4.out).mono ?_
    rintro e w' ⟨rfl, ⟨n22, rfl⟩⟩
    go_wp2_with fail
    refine (name_lit _ _ _ w0 E2.out).mono ?_
    rintro e w' ⟨rfl, ⟨n23, rfl⟩⟩
    go_wp2_with fail
    refine (prefix_lit _ _ _ S3.out E3.out).mono ?_
    rintro e w' ⟨rfl, ⟨n24, rfl⟩⟩
    go_wp2
    go_ret
    exact ⟨by first | rfl | simp, pw_below_drewN hx1 _⟩
end Go.Proofs.Ytidcdijplbopeaa.KP
