import Derived.Test.YtobanhbjkomieaaRP
namespace Go.Proofs.Ytobanhbjkomieaa.RP
open Go.RowKit Go.Proofs.Ytobanhbjkomieaa.PAll Go.Proofs.Ytobanhbjkomieaa.KP Go.Proofs.Ytobanhbjkomieaa.BP Go.Proofs.YtobanhbjkomieaaW.PrintWords Go.Proofs.YtobanhbjkomieaaW.PrintLast Go.Proofs.YtobanhbjkomieaaW.PrintMore
set_option linter.unusedSimpArgs false
set_option linter.unusedVariables false
attribute [local go_sem high] EQ.eqA23 EQ.eqA25 EQ.eqA113
/-! ### RecordWhose -/
theorem nameA (s : ByteArray) (hs : s.size ≤ 140737488351232) (w : World) : Calls Try.prog 94 #[.string s] w fun e w' => e = .returned (.bool (isName s.data.toList)) ∧ Below w.heap.size w w' :=
  (refName_any s hs w).mono fun _ _ h => ⟨h.1, h.2.below⟩
theorem clusterA (s t : ByteArray) (hs : s.size ≤ 140737488351232) (ht : t.size ≤ 140737488351232) : ∃ k : ByteArray, k.data.toList = clusterK s.data.toList t.data.toList ∧ ∀ w, Calls Try.prog 95 #[.string s, .string t] w fun e w' => e = .returned (.string k) ∧ Below w.heap.size w w' :=
  ⟨⟨(clusterK s.data.toList t.data.toList).toArray⟩, rfl, fun w => (refCluster_any s t hs ht w).mono fun _ _ h => ⟨h.1, h.2.below⟩⟩
theorem tenantA (s : ByteArray) (hs : s.size ≤ 140737488351232) : ∃ k : ByteArray, k.data.toList = tenantK s.data.toList ∧ ∀ w, Calls Try.prog 96 #[.string s] w fun e w' => e = .returned (.string k) ∧ Below w.heap.size w w' :=
  ⟨⟨(tenantK s.data.toList).toArray⟩, rfl, fun w => (refTenant_any s hs w).mono fun _ _ h => ⟨h.1, h.2.below⟩⟩
/-- A row of entries in a block of its own. -/
theorem entries_two {W : World} {g : Nat} {k a j b : ByteArray} {m1 m2 n1 n2 : Int} (h : W.heap[g]? = some (.cells #[.string k, .string a, .int .i64 m1, .int .i64 n1, .string j, .string b, .int .i64 m2, .int .i64 n2] 62 (0, 0))) :
    Kd.C k62 W (some ⟨g, 0, none⟩) ([⟨k, a, m1, n1⟩, ⟨j, b, m2, n2⟩] : List En).length [⟨k, a, m1, n1⟩, ⟨j, b, m2, n2⟩] := by
  refine ⟨rfl, by simp, fun _ => ⟨_, rfl, fun i p hp => ?_⟩⟩
  rcases i with _ | _ | i
  · simp only [List.getElem?_cons_zero, Option.some.injEq] at hp
    subst hp
    refine ⟨[.string k, .string a, .int .i64 m1, .int .i64 n1], rfl, ⟨[.string k], [.string a, .int .i64 m1, .int .i64 n1], rfl, rfl, ⟨[.string a], [.int .i64 m1, .int .i64 n1], rfl, rfl, ⟨[.int .i64 m1], [.int .i64 n1], rfl, rfl, rfl⟩⟩⟩, fun q u hu => ?_⟩
    have hb := blk_cell h q
    rcases q with _ | _ | _ | _ | q
    iterate 4 exact hb.trans (by simpa using hu)
    simp at hu
  · simp only [List.getElem?_cons_zero, List.getElem?_cons_succ, Option.some.injEq] at hp
    subst hp
    refine ⟨[.string j, .string b, .int .i64 m2, .int .i64 n2], rfl, ⟨[.string j], [.string b, .int .i64 m2, .int .i64 n2], rfl, rfl, ⟨[.string b], [.int .i64 m2, .int .i64 n2], rfl, rfl, ⟨[.int .i64 m2], [.int .i64 n2], rfl, rfl, rfl⟩⟩⟩, fun q u hu => ?_⟩
    have hb := blk_cell h (4 + q)
    rcases q with _ | _ | _ | _ | q
    iterate 4 exact hb.trans (by simpa using hu)
    simp at hu
  · simp at hp
theorem live_two {k a j b : ByteArray} (hk : k.size ≤ 140737488351232) (ha : a.size ≤ 140737488351232) (hj : j.size ≤ 140737488351232) (hb : b.size ≤ 140737488351232) (t : ByteArray) (n : Int) (hn : (liveL [⟨k, a, 0, 0⟩, ⟨j, b, 0, 0⟩] t.data.toList : Int) = n)
    (g : Nat) (W : World) (h : W.heap[g]? = some (.cells #[.string k, .string a, .int .i64 0, .int .i64 0, .string j, .string b, .int .i64 0, .int .i64 0] 62 (0, 0))) :
    Calls Try.prog 91 #[.slice (some ⟨g, 0, none⟩) 2 2, .string t] W fun e w' => e = .returned (.int .i64 n) ∧ Below W.heap.size W w' := by
  subst hn
  refine live_any _ 2 _ t W (Nat.le_refl _) (entries_two h) (by simp) (fun x hx => ?_)
  simp only [List.mem_cons, List.not_mem_nil, or_false] at hx
  rcases hx with rfl | rfl
  · exact ⟨hk, ha⟩
  · exact ⟨hj, hb⟩
theorem cluster_it {t c k a rep : ByteArray} {ep tm : Int} {gone : Bool} (ht : isName t.data.toList = true) (hc : isName c.data.toList = true) (hk : k.data.toList = clusterK t.data.toList c.data.toList) (hm : mayRec rep ep tm = true) (ha : a.data.toList = (rcOf rep ep tm gone).bytes) :
    readIt k.data.toList a.data.toList = (⟨t.data.toList, c.data.toList, rcOf rep ep tm gone, ⟨0, 0⟩⟩, 0) := by
  have hne : c.data.toList ≠ [] := by rintro e; rw [e] at hc; cases hc
  have hr := decRc_full (r := rcOf rep ep tm gone) hm []
  rw [List.append_nil, if_pos rfl] at hr
  unfold readIt
  rw [hk, read_cluster ht hc, ha, hr]
  simp [hne, noTn]
theorem tenant_it {t k b : ByteArray} {live eps : Int} (ht : isName t.data.toList = true) (hk : k.data.toList = tenantK t.data.toList) (hm : mayTen live eps = true) (hb : b.data.toList = (⟨live, eps⟩ : Tn).bytes) :
    readIt k.data.toList b.data.toList = (⟨t.data.toList, [], noRc, ⟨live, eps⟩⟩, 0) := by
  have hr := decTn_full (t := ⟨live, eps⟩) hm []
  rw [List.append_nil, if_pos rfl] at hr
  unfold readIt
  rw [hk, read_tenant ht, hb, hr]
  simp
theorem isName_ne {c : ByteArray} (hc : isName c.data.toList = true) : c.data.toList ≠ [] := by rintro e; rw [e] at hc; cases hc
theorem live_cnt {t c k a j b rep u : ByteArray} {ep tm live eps : Int} {gone : Bool} (hc : c.data.toList ≠ []) (h1 : readIt k.data.toList a.data.toList = (⟨t.data.toList, c.data.toList, rcOf rep ep tm gone, ⟨0, 0⟩⟩, 0)) (h2 : readIt j.data.toList b.data.toList = (⟨t.data.toList, [], noRc, ⟨live, eps⟩⟩, 0)) :
    (liveL [⟨k, a, 0, 0⟩, ⟨j, b, 0, 0⟩] u.data.toList : Int) = if t.data.toList = u.data.toList ∧ gone = false then 1 else 0 := by
  unfold liveL
  rw [List.countP_cons, List.countP_cons, List.countP_nil]
  have e2 : isLive u.data.toList ⟨j, b, 0, 0⟩ = false := by unfold isLive; rw [h2]; simp
  have e1 : isLive u.data.toList ⟨k, a, 0, 0⟩ = (decide (t.data.toList = u.data.toList) && !gone) := by unfold isLive; rw [h1]; simp [hc, rcOf]
  rw [e1, e2]
  by_cases h : t.data.toList = u.data.toList
  · cases gone <;> simp [h]
  · simp [h]
theorem clusterK_len (a b : List UInt8) : (clusterK a b).length ≤ 100 := by
  unfold clusterK
  split
  · rename_i h
    rw [Bool.and_eq_true] at h
    have h1 := (isName_len h.1).2
    have h2 := (isName_len h.2).2
    simp; omega
  · simp
theorem tenantK_len (a : List UInt8) : (tenantK a).length ≤ 100 := by
  unfold tenantK
  split
  · rename_i h
    have h1 := (isName_len h).2
    simp; omega
  · simp
set_option maxHeartbeats 2000000 in
set_option maxRecDepth 100000 in
theorem RecordWhose_core (t c o : ByteArray) (rep : ByteArray) (ep tm : Int) (gone : Bool) (live eps : Int) (w : World) (ht : t.size ≤ 140737488351232) (hc : c.size ≤ 140737488351232) (ho : o.size ≤ 140737488351232) (hs0 : rep.size ≤ maxLen) :
    Calls Try.prog 19 #[.string t, .string c, .string o, recA rep ep tm gone, tenA live eps] w fun e w' => e = .returned (.bool true) ∧ Below w.heap.size w w' := by
  unfold maxLen at hs0
  obtain ⟨k, hk, ck⟩ := clusterA t c ht hc
  obtain ⟨j, hj, cj⟩ := tenantA t ht
  have CK := Lib.hid ck
  have CJ := Lib.hid cj
  have HK := Lib.hid hk
  have HJ := Lib.hid hj
  clear ck cj hk hj
  by_cases h0 : 1000 < rep.size
  · go_enter Try.func19, Try.ntmps19
    go_wp2_with fail
    refine (awake_any _).mono ?_
    rintro e w1 ⟨rfl, hb1⟩
    have HR1 := Lib.hid ((hb1.block (w.heap.size) (by simp; omega)).trans (blk_alloc (heap_alloc_new w (.cells #[.string rep, .int .i64 ep, .int .i64 tm, .bool gone] 23)) (.cells #[.int .i64 live, .int .i64 eps] 25)))
    have HT1 := Lib.hid ((hb1.block (w.heap.size + 1) (by simp)).trans (heap_alloc_at (w.alloc (.cells #[.string rep, .int .i64 ep, .int .i64 tm, .bool gone] 23)) (.cells #[.int .i64 live, .int .i64 eps] 25) (n := w.heap.size + 1) (by simp)))
    have HB1 := Lib.hid ((below_alloc (below_alloc (Below.refl w.heap.size w) (.cells #[.string rep, .int .i64 ep, .int .i64 tm, .bool gone] 23)) (.cells #[.int .i64 live, .int .i64 eps] 25)).trans (hb1.mono (by simp; try omega)))
    clear hb1
    go_wp2
    go_ret
    exact ⟨by first | rfl | (simp; done), HB1.out⟩
  have hr : rep.size ≤ 140737488351232 := by omega
  go_enter Try.func19, Try.ntmps19
  go_wp2_with fail
  refine (nameA t ht _).mono ?_
  rintro e w1 ⟨rfl, hb1⟩
  have HR1 := Lib.hid ((hb1.block (w.heap.size) (by simp; omega)).trans (blk_alloc (heap_alloc_new w (.cells #[.string rep, .int .i64 ep, .int .i64 tm, .bool gone] 23)) (.cells #[.int .i64 live, .int .i64 eps] 25)))
  have HT1 := Lib.hid ((hb1.block (w.heap.size + 1) (by simp)).trans (heap_alloc_at (w.alloc (.cells #[.string rep, .int .i64 ep, .int .i64 tm, .bool gone] 23)) (.cells #[.int .i64 live, .int .i64 eps] 25) (n := w.heap.size + 1) (by simp)))
  have HB1 := Lib.hid ((below_alloc (below_alloc (Below.refl w.heap.size w) (.cells #[.string rep, .int .i64 ep, .int .i64 tm, .bool gone] 23)) (.cells #[.int .i64 live, .int .i64 eps] 25)).trans (hb1.mono (by simp; try omega)))
  clear hb1
  cases hnt : isName t.data.toList
  · go_wp2_with fail
    refine (awake_any _).mono ?_
    rintro e w2 ⟨rfl, hb2⟩
    have HR2 := Lib.hid ((hb2.block _ (by have := blk_lt HR1.out; exact this)).trans HR1.out)
    have HT2 := Lib.hid ((hb2.block _ (by have := blk_lt HT1.out; exact this)).trans HT1.out)
    have HB2 := Lib.hid ((HB1.out).trans (hb2.mono (by have := HB1.out.size; omega)))
    clear hb2
    go_wp2
    go_ret
    exact ⟨by first | rfl | (simp; done), HB2.out⟩
  ·
    go_wp2_with fail
    refine (nameA c hc _).mono ?_
    rintro e w2 ⟨rfl, hb2⟩
    have HR2 := Lib.hid ((hb2.block _ (by have := blk_lt HR1.out; exact this)).trans HR1.out)
    have HT2 := Lib.hid ((hb2.block _ (by have := blk_lt HT1.out; exact this)).trans HT1.out)
    have HB2 := Lib.hid ((HB1.out).trans (hb2.mono (by have := HB1.out.size; omega)))
    clear hb2
    cases hnc : isName c.data.toList
    · go_wp2_with fail
      refine (awake_any _).mono ?_
      rintro e w3 ⟨rfl, hb3⟩
      have HR3 := Lib.hid ((hb3.block _ (by have := blk_lt HR2.out; exact this)).trans HR2.out)
      have HT3 := Lib.hid ((hb3.block _ (by have := blk_lt HT2.out; exact this)).trans HT2.out)
      have HB3 := Lib.hid ((HB2.out).trans (hb3.mono (by have := HB2.out.size; omega)))
      clear hb3
      go_wp2
      go_ret
      exact ⟨by first | rfl | (simp; done), HB3.out⟩
    ·
      by_cases h1 : 1000 < o.size
      · go_wp2_with fail
        refine (awake_any _).mono ?_
        rintro e w3 ⟨rfl, hb3⟩
        have HR3 := Lib.hid ((hb3.block _ (by have := blk_lt HR2.out; exact this)).trans HR2.out)
        have HT3 := Lib.hid ((hb3.block _ (by have := blk_lt HT2.out; exact this)).trans HT2.out)
        have HB3 := Lib.hid ((HB2.out).trans (hb3.mono (by have := HB2.out.size; omega)))
        clear hb3
        go_wp2
        go_ret
        exact ⟨by first | rfl | (simp; done), HB3.out⟩
      ·
        have hcR0 := blk_cell HR2.out 0
        have hcR1 := blk_cell HR2.out 1
        have hcR2 := blk_cell HR2.out 2
        have hcR3 := blk_cell HR2.out 3
        have hlR := blk_lt HR2.out
        simp only [List.getElem?_toArray, List.getElem?_cons_zero, List.getElem?_cons_succ] at hcR0 hcR1 hcR2 hcR3
        go_wp2_with fail
        refine (recMay_any rep hr ep tm gone _).mono ?_
        rintro e w3 ⟨rfl, hb3⟩
        clear hcR0 hcR1 hcR2 hcR3 hlR
        have HR3 := Lib.hid ((hb3.block _ (by have := blk_lt HR2.out; exact this)).trans HR2.out)
        have HT3 := Lib.hid ((hb3.block _ (by have := blk_lt HT2.out; exact this)).trans HT2.out)
        have HB3 := Lib.hid ((HB2.out).trans (hb3.mono (by have := HB2.out.size; omega)))
        clear hb3
        cases hm : mayRec rep ep tm
        · go_wp2_with fail
          refine (awake_any _).mono ?_
          rintro e w4 ⟨rfl, hb4⟩
          have HR4 := Lib.hid ((hb4.block _ (by have := blk_lt HR3.out; exact this)).trans HR3.out)
          have HT4 := Lib.hid ((hb4.block _ (by have := blk_lt HT3.out; exact this)).trans HT3.out)
          have HB4 := Lib.hid ((HB3.out).trans (hb4.mono (by have := HB3.out.size; omega)))
          clear hb4
          go_wp2
          go_ret
          exact ⟨by first | rfl | (simp; done), HB4.out⟩
        ·
          have hcT0 := blk_cell HT3.out 0
          have hcT1 := blk_cell HT3.out 1
          have hlT := blk_lt HT3.out
          simp only [List.getElem?_toArray, List.getElem?_cons_zero, List.getElem?_cons_succ] at hcT0 hcT1
          go_wp2_with fail
          refine (tenMay_any live eps _).mono ?_
          rintro e w4 ⟨rfl, hb4⟩
          clear hcT0 hcT1 hlT
          have HR4 := Lib.hid ((hb4.block _ (by have := blk_lt HR3.out; exact this)).trans HR3.out)
          have HT4 := Lib.hid ((hb4.block _ (by have := blk_lt HT3.out; exact this)).trans HT3.out)
          have HB4 := Lib.hid ((HB3.out).trans (hb4.mono (by have := HB3.out.size; omega)))
          clear hb4
          cases hn : mayTen live eps
          · go_wp2_with fail
            refine (awake_any _).mono ?_
            rintro e w5 ⟨rfl, hb5⟩
            have HR5 := Lib.hid ((hb5.block _ (by have := blk_lt HR4.out; exact this)).trans HR4.out)
            have HT5 := Lib.hid ((hb5.block _ (by have := blk_lt HT4.out; exact this)).trans HT4.out)
            have HB5 := Lib.hid ((HB4.out).trans (hb5.mono (by have := HB4.out.size; omega)))
            clear hb5
            go_wp2
            go_ret
            exact ⟨by first | rfl | (simp; done), HB5.out⟩
          ·
            rcases encCase rep hr ep tm gone with ⟨_, a, ha1, ha2, ha3, f1, _⟩ | ⟨m4, _⟩
            rotate_left
            · rw [hm] at m4; cases m4
            rcases encTCase live eps with ⟨_, b, hb1, hb2, hb3, g1, _⟩ | ⟨m4, _⟩
            rotate_left
            · rw [hn] at m4; cases m4
            have i1 := cluster_it hnt hnc HK.out hm ha3
            have i2 := tenant_it hnt HJ.out hn hb3
            have hcn := isName_ne hnc
            have hks : k.size ≤ 140737488351232 := by have := clusterK_len t.data.toList c.data.toList; rw [Lib.size_eq, HK.out]; omega
            have hjs : j.size ≤ 140737488351232 := by have := tenantK_len t.data.toList; rw [Lib.size_eq, HJ.out]; omega
            have r1 := fun W => readAs k a hks (by omega) t c rep ep tm gone 0 0 0 i1 W
            have r2 := fun W => readAs j b hjs (by omega) t ⟨#[]⟩ ⟨#[]⟩ 0 0 false live eps 0 i2 W
            have has : a.size ≤ 140737488351232 := by omega
            have hbs : b.size ≤ 140737488351232 := by omega
            have n1 := fun (u : ByteArray) (n : Int) (h : (if t.data.toList = u.data.toList ∧ gone = false then (1 : Int) else 0) = n) (g : Nat) (W : World) hW => live_two hks has hjs hbs u n ((live_cnt hcn i1 i2).trans h) g W hW
            have F1 := Lib.hid f1
            have G1 := Lib.hid g1
            have R1 := Lib.hid r1
            have R2 := Lib.hid r2
            have N1 := Lib.hid n1
            clear f1 g1 r1 r2 n1
            clear ha2 ha3 hb2 hb3 i1 i2 hcn hm hn hnt hnc HK HJ
            go_wp2_with fail
            refine (awake_any _).mono ?_
            rintro e w5 ⟨rfl, hb5⟩
            have HR5 := Lib.hid ((hb5.block _ (by have := blk_lt HR4.out; exact this)).trans HR4.out)
            have HT5 := Lib.hid ((hb5.block _ (by have := blk_lt HT4.out; exact this)).trans HT4.out)
            have HB5 := Lib.hid ((HB4.out).trans (hb5.mono (by have := HB4.out.size; omega)))
            clear hb5
            have hcR0 := blk_cell HR5.out 0
            have hcR1 := blk_cell HR5.out 1
            have hcR2 := blk_cell HR5.out 2
            have hcR3 := blk_cell HR5.out 3
            have hlR := blk_lt HR5.out
            simp only [List.getElem?_toArray, List.getElem?_cons_zero, List.getElem?_cons_succ] at hcR0 hcR1 hcR2 hcR3
            go_wp2_with fail
            refine (F1.out _).mono ?_
            rintro e w6 ⟨rfl, hb6⟩
            clear hcR0 hcR1 hcR2 hcR3 hlR
            have HR6 := Lib.hid ((hb6.block _ (by have := blk_lt HR5.out; exact this)).trans HR5.out)
            have HT6 := Lib.hid ((hb6.block _ (by have := blk_lt HT5.out; exact this)).trans HT5.out)
            have HB6 := Lib.hid ((HB5.out).trans (hb6.mono (by have := HB5.out.size; omega)))
            clear hb6
            have hcT0 := blk_cell HT6.out 0
            have hcT1 := blk_cell HT6.out 1
            have hlT := blk_lt HT6.out
            simp only [List.getElem?_toArray, List.getElem?_cons_zero, List.getElem?_cons_succ] at hcT0 hcT1
            go_wp2_with fail
            refine (G1.out _).mono ?_
            rintro e w7 ⟨rfl, hb7⟩
            clear hcT0 hcT1 hlT
            have HR7 := Lib.hid ((hb7.block _ (by have := blk_lt HR6.out; exact this)).trans HR6.out)
            have HT7 := Lib.hid ((hb7.block _ (by have := blk_lt HT6.out; exact this)).trans HT6.out)
            have HB7 := Lib.hid ((HB6.out).trans (hb7.mono (by have := HB6.out.size; omega)))
            clear hb7
            go_wp2_with fail
            refine (CK.out _).mono ?_
            rintro e w8 ⟨rfl, hb8⟩
            have HR8 := Lib.hid ((hb8.block _ (by have := blk_lt HR7.out; exact this)).trans HR7.out)
            have HT8 := Lib.hid ((hb8.block _ (by have := blk_lt HT7.out; exact this)).trans HT7.out)
            have HB8 := Lib.hid ((HB7.out).trans (hb8.mono (by have := HB7.out.size; omega)))
            clear hb8
            go_wp2_with fail
            refine (R1.out _).mono ?_
            rintro e w9 ⟨rfl, hb9⟩
            have HR9 := Lib.hid ((hb9.block _ (by have := blk_lt HR8.out; exact this)).trans HR8.out)
            have HT9 := Lib.hid ((hb9.block _ (by have := blk_lt HT8.out; exact this)).trans HT8.out)
            have HB9 := Lib.hid ((HB8.out).trans (hb9.mono (by have := HB8.out.size; omega)))
            clear hb9
            go_wp2_with fail
            refine (CJ.out _).mono ?_
            rintro e w10 ⟨rfl, hb10⟩
            have HR10 := Lib.hid ((hb10.block _ (by have := blk_lt HR9.out; simp; omega)).trans (blk_alloc HR9.out (.cells #[.string t, .string c, .string rep, .int .i64 ep, .int .i64 tm, .bool gone, .int .i64 0, .int .i64 0] 113)))
            have HT10 := Lib.hid ((hb10.block _ (by have := blk_lt HT9.out; simp; omega)).trans (blk_alloc HT9.out (.cells #[.string t, .string c, .string rep, .int .i64 ep, .int .i64 tm, .bool gone, .int .i64 0, .int .i64 0] 113)))
            have HX10 := Lib.hid ((hb10.block (w9.heap.size) (by simp)).trans (heap_alloc_new w9 (.cells #[.string t, .string c, .string rep, .int .i64 ep, .int .i64 tm, .bool gone, .int .i64 0, .int .i64 0] 113)))
            have HB10 := Lib.hid ((below_alloc (HB9.out) (.cells #[.string t, .string c, .string rep, .int .i64 ep, .int .i64 tm, .bool gone, .int .i64 0, .int .i64 0] 113)).trans (hb10.mono (by have := HB9.out.size; simp; omega)))
            clear hb10
            go_wp2_with fail
            refine (R2.out _).mono ?_
            rintro e w11 ⟨rfl, hb11⟩
            have HR11 := Lib.hid ((hb11.block _ (by have := blk_lt HR10.out; exact this)).trans HR10.out)
            have HT11 := Lib.hid ((hb11.block _ (by have := blk_lt HT10.out; exact this)).trans HT10.out)
            have HX11 := Lib.hid ((hb11.block _ (by have := blk_lt HX10.out; exact this)).trans HX10.out)
            have HB11 := Lib.hid ((HB10.out).trans (hb11.mono (by have := HB10.out.size; omega)))
            clear hb11
            cases gone
            · have hcR0 := blk_cell HR11.out 0
              have hcR1 := blk_cell HR11.out 1
              have hcR2 := blk_cell HR11.out 2
              have hcR3 := blk_cell HR11.out 3
              have hlR := blk_lt HR11.out
              simp only [List.getElem?_toArray, List.getElem?_cons_zero, List.getElem?_cons_succ] at hcR0 hcR1 hcR2 hcR3
              go_wp2_with fail
              refine (CK.out _).mono ?_
              rintro e w12 ⟨rfl, hb12⟩
              clear hcR0 hcR1 hcR2 hcR3 hlR
              have HR12 := Lib.hid ((hb12.block _ (by have := blk_lt HR11.out; simp; omega)).trans (blk_alloc HR11.out (.cells #[.string t, .string ⟨#[]⟩, .string ⟨#[]⟩, .int .i64 0, .int .i64 0, .bool false, .int .i64 live, .int .i64 eps] 113)))
              have HT12 := Lib.hid ((hb12.block _ (by have := blk_lt HT11.out; simp; omega)).trans (blk_alloc HT11.out (.cells #[.string t, .string ⟨#[]⟩, .string ⟨#[]⟩, .int .i64 0, .int .i64 0, .bool false, .int .i64 live, .int .i64 eps] 113)))
              have HX12 := Lib.hid ((hb12.block _ (by have := blk_lt HX11.out; simp; omega)).trans (blk_alloc HX11.out (.cells #[.string t, .string ⟨#[]⟩, .string ⟨#[]⟩, .int .i64 0, .int .i64 0, .bool false, .int .i64 live, .int .i64 eps] 113)))
              have HY12 := Lib.hid ((hb12.block (w11.heap.size) (by simp)).trans (heap_alloc_new w11 (.cells #[.string t, .string ⟨#[]⟩, .string ⟨#[]⟩, .int .i64 0, .int .i64 0, .bool false, .int .i64 live, .int .i64 eps] 113)))
              have HB12 := Lib.hid ((below_alloc (HB11.out) (.cells #[.string t, .string ⟨#[]⟩, .string ⟨#[]⟩, .int .i64 0, .int .i64 0, .bool false, .int .i64 live, .int .i64 eps] 113)).trans (hb12.mono (by have := HB11.out.size; simp; omega)))
              clear hb12
              go_wp2_with fail
              refine (CJ.out _).mono ?_
              rintro e w13 ⟨rfl, hb13⟩
              have HR13 := Lib.hid ((hb13.block _ (by have := blk_lt HR12.out; exact this)).trans HR12.out)
              have HT13 := Lib.hid ((hb13.block _ (by have := blk_lt HT12.out; exact this)).trans HT12.out)
              have HX13 := Lib.hid ((hb13.block _ (by have := blk_lt HX12.out; exact this)).trans HX12.out)
              have HY13 := Lib.hid ((hb13.block _ (by have := blk_lt HY12.out; exact this)).trans HY12.out)
              have HB13 := Lib.hid ((HB12.out).trans (hb13.mono (by have := HB12.out.size; omega)))
              clear hb13
              have hcX0 := blk_cell HX13.out 0
              have hcX1 := blk_cell HX13.out 1
              have hcX2 := blk_cell HX13.out 2
              have hcX3 := blk_cell HX13.out 3
              have hcX4 := blk_cell HX13.out 4
              have hcX5 := blk_cell HX13.out 5
              have hcX6 := blk_cell HX13.out 6
              have hcX7 := blk_cell HX13.out 7
              have hlX := blk_lt HX13.out
              have hcY0 := blk_cell HY13.out 0
              have hcY1 := blk_cell HY13.out 1
              have hcY2 := blk_cell HY13.out 2
              have hcY3 := blk_cell HY13.out 3
              have hcY4 := blk_cell HY13.out 4
              have hcY5 := blk_cell HY13.out 5
              have hcY6 := blk_cell HY13.out 6
              have hcY7 := blk_cell HY13.out 7
              have hlY := blk_lt HY13.out
              have hcR0 := blk_cell HR13.out 0
              have hcR1 := blk_cell HR13.out 1
              have hcR2 := blk_cell HR13.out 2
              have hcR3 := blk_cell HR13.out 3
              have hlR := blk_lt HR13.out
              have hcT0 := blk_cell HT13.out 0
              have hcT1 := blk_cell HT13.out 1
              have hlT := blk_lt HT13.out
              simp only [List.getElem?_toArray, List.getElem?_cons_zero, List.getElem?_cons_succ] at hcX0 hcX1 hcX2 hcX3 hcX4 hcX5 hcX6 hcX7 hcY0 hcY1 hcY2 hcY3 hcY4 hcY5 hcY6 hcY7 hcR0 hcR1 hcR2 hcR3 hcT0 hcT1
              go_wp2_with fail
              refine (N1.out t 1 (by simp) _ _ (heap_alloc_new _ _)).mono ?_
              rintro e w14 ⟨rfl, hb14⟩
              clear hcX0 hcX1 hcX2 hcX3 hcX4 hcX5 hcX6 hcX7 hcY0 hcY1 hcY2 hcY3 hcY4 hcY5 hcY6 hcY7 hcR0 hcR1 hcR2 hcR3 hcT0 hcT1 hlX hlY hlR hlT
              have HR14 := Lib.hid ((hb14.block _ (by have := blk_lt HR13.out; simp; omega)).trans (blk_alloc HR13.out (.cells #[.string k, .string a, .int .i64 0, .int .i64 0, .string j, .string b, .int .i64 0, .int .i64 0] 62)))
              have HT14 := Lib.hid ((hb14.block _ (by have := blk_lt HT13.out; simp; omega)).trans (blk_alloc HT13.out (.cells #[.string k, .string a, .int .i64 0, .int .i64 0, .string j, .string b, .int .i64 0, .int .i64 0] 62)))
              have HX14 := Lib.hid ((hb14.block _ (by have := blk_lt HX13.out; simp; omega)).trans (blk_alloc HX13.out (.cells #[.string k, .string a, .int .i64 0, .int .i64 0, .string j, .string b, .int .i64 0, .int .i64 0] 62)))
              have HY14 := Lib.hid ((hb14.block _ (by have := blk_lt HY13.out; simp; omega)).trans (blk_alloc HY13.out (.cells #[.string k, .string a, .int .i64 0, .int .i64 0, .string j, .string b, .int .i64 0, .int .i64 0] 62)))
              have HZ14 := Lib.hid ((hb14.block (w13.heap.size) (by simp)).trans (heap_alloc_new w13 (.cells #[.string k, .string a, .int .i64 0, .int .i64 0, .string j, .string b, .int .i64 0, .int .i64 0] 62)))
              have HB14 := Lib.hid ((below_alloc (HB13.out) (.cells #[.string k, .string a, .int .i64 0, .int .i64 0, .string j, .string b, .int .i64 0, .int .i64 0] 62)).trans (hb14.mono (by have := HB13.out.size; simp; omega)))
              clear hb14
              by_cases hto : t.data.toList = o.data.toList
              · have g5 : (o.toList == t.toList) = true := by rw [Lib.toList_data, Lib.toList_data]; exact beq_iff_eq.2 hto.symm
                go_wp2
                go_ret
                exact ⟨by first | rfl | (simp; done), HB14.out⟩
              · have g5 : (o.toList == t.toList) = false := by rw [Lib.toList_data, Lib.toList_data]; exact beq_eq_false_iff_ne.2 (fun h => hto h.symm)
                go_wp2_with fail
                refine (N1.out o 0 (by simp [hto]) _ _ (HZ14.out)).mono ?_
                rintro e w15 ⟨rfl, hb15⟩
                have HR15 := Lib.hid ((hb15.block _ (by have := blk_lt HR14.out; exact this)).trans HR14.out)
                have HT15 := Lib.hid ((hb15.block _ (by have := blk_lt HT14.out; exact this)).trans HT14.out)
                have HX15 := Lib.hid ((hb15.block _ (by have := blk_lt HX14.out; exact this)).trans HX14.out)
                have HY15 := Lib.hid ((hb15.block _ (by have := blk_lt HY14.out; exact this)).trans HY14.out)
                have HZ15 := Lib.hid ((hb15.block _ (by have := blk_lt HZ14.out; exact this)).trans HZ14.out)
                have HB15 := Lib.hid ((HB14.out).trans (hb15.mono (by have := HB14.out.size; omega)))
                clear hb15
                go_wp2
                go_ret
                exact ⟨by first | rfl | (simp; done), HB15.out⟩
            · have hcR0 := blk_cell HR11.out 0
              have hcR1 := blk_cell HR11.out 1
              have hcR2 := blk_cell HR11.out 2
              have hcR3 := blk_cell HR11.out 3
              have hlR := blk_lt HR11.out
              simp only [List.getElem?_toArray, List.getElem?_cons_zero, List.getElem?_cons_succ] at hcR0 hcR1 hcR2 hcR3
              go_wp2_with fail
              refine (CK.out _).mono ?_
              rintro e w12 ⟨rfl, hb12⟩
              clear hcR0 hcR1 hcR2 hcR3 hlR
              have HR12 := Lib.hid ((hb12.block _ (by have := blk_lt HR11.out; simp; omega)).trans (blk_alloc HR11.out (.cells #[.string t, .string ⟨#[]⟩, .string ⟨#[]⟩, .int .i64 0, .int .i64 0, .bool false, .int .i64 live, .int .i64 eps] 113)))
              have HT12 := Lib.hid ((hb12.block _ (by have := blk_lt HT11.out; simp; omega)).trans (blk_alloc HT11.out (.cells #[.string t, .string ⟨#[]⟩, .string ⟨#[]⟩, .int .i64 0, .int .i64 0, .bool false, .int .i64 live, .int .i64 eps] 113)))
              have HX12 := Lib.hid ((hb12.block _ (by have := blk_lt HX11.out; simp; omega)).trans (blk_alloc HX11.out (.cells #[.string t, .string ⟨#[]⟩, .string ⟨#[]⟩, .int .i64 0, .int .i64 0, .bool false, .int .i64 live, .int .i64 eps] 113)))
              have HY12 := Lib.hid ((hb12.block (w11.heap.size) (by simp)).trans (heap_alloc_new w11 (.cells #[.string t, .string ⟨#[]⟩, .string ⟨#[]⟩, .int .i64 0, .int .i64 0, .bool false, .int .i64 live, .int .i64 eps] 113)))
              have HB12 := Lib.hid ((below_alloc (HB11.out) (.cells #[.string t, .string ⟨#[]⟩, .string ⟨#[]⟩, .int .i64 0, .int .i64 0, .bool false, .int .i64 live, .int .i64 eps] 113)).trans (hb12.mono (by have := HB11.out.size; simp; omega)))
              clear hb12
              go_wp2_with fail
              refine (CJ.out _).mono ?_
              rintro e w13 ⟨rfl, hb13⟩
              have HR13 := Lib.hid ((hb13.block _ (by have := blk_lt HR12.out; exact this)).trans HR12.out)
              have HT13 := Lib.hid ((hb13.block _ (by have := blk_lt HT12.out; exact this)).trans HT12.out)
              have HX13 := Lib.hid ((hb13.block _ (by have := blk_lt HX12.out; exact this)).trans HX12.out)
              have HY13 := Lib.hid ((hb13.block _ (by have := blk_lt HY12.out; exact this)).trans HY12.out)
              have HB13 := Lib.hid ((HB12.out).trans (hb13.mono (by have := HB12.out.size; omega)))
              clear hb13
              have hcX0 := blk_cell HX13.out 0
              have hcX1 := blk_cell HX13.out 1
              have hcX2 := blk_cell HX13.out 2
              have hcX3 := blk_cell HX13.out 3
              have hcX4 := blk_cell HX13.out 4
              have hcX5 := blk_cell HX13.out 5
              have hcX6 := blk_cell HX13.out 6
              have hcX7 := blk_cell HX13.out 7
              have hlX := blk_lt HX13.out
              have hcY0 := blk_cell HY13.out 0
              have hcY1 := blk_cell HY13.out 1
              have hcY2 := blk_cell HY13.out 2
              have hcY3 := blk_cell HY13.out 3
              have hcY4 := blk_cell HY13.out 4
              have hcY5 := blk_cell HY13.out 5
              have hcY6 := blk_cell HY13.out 6
              have hcY7 := blk_cell HY13.out 7
              have hlY := blk_lt HY13.out
              have hcR0 := blk_cell HR13.out 0
              have hcR1 := blk_cell HR13.out 1
              have hcR2 := blk_cell HR13.out 2
              have hcR3 := blk_cell HR13.out 3
              have hlR := blk_lt HR13.out
              have hcT0 := blk_cell HT13.out 0
              have hcT1 := blk_cell HT13.out 1
              have hlT := blk_lt HT13.out
              simp only [List.getElem?_toArray, List.getElem?_cons_zero, List.getElem?_cons_succ] at hcX0 hcX1 hcX2 hcX3 hcX4 hcX5 hcX6 hcX7 hcY0 hcY1 hcY2 hcY3 hcY4 hcY5 hcY6 hcY7 hcR0 hcR1 hcR2 hcR3 hcT0 hcT1
              go_wp2_with fail
              refine (N1.out t 0 (by simp) _ _ (heap_alloc_new _ _)).mono ?_
              rintro e w14 ⟨rfl, hb14⟩
              clear hcX0 hcX1 hcX2 hcX3 hcX4 hcX5 hcX6 hcX7 hcY0 hcY1 hcY2 hcY3 hcY4 hcY5 hcY6 hcY7 hcR0 hcR1 hcR2 hcR3 hcT0 hcT1 hlX hlY hlR hlT
              have HR14 := Lib.hid ((hb14.block _ (by have := blk_lt HR13.out; simp; omega)).trans (blk_alloc HR13.out (.cells #[.string k, .string a, .int .i64 0, .int .i64 0, .string j, .string b, .int .i64 0, .int .i64 0] 62)))
              have HT14 := Lib.hid ((hb14.block _ (by have := blk_lt HT13.out; simp; omega)).trans (blk_alloc HT13.out (.cells #[.string k, .string a, .int .i64 0, .int .i64 0, .string j, .string b, .int .i64 0, .int .i64 0] 62)))
              have HX14 := Lib.hid ((hb14.block _ (by have := blk_lt HX13.out; simp; omega)).trans (blk_alloc HX13.out (.cells #[.string k, .string a, .int .i64 0, .int .i64 0, .string j, .string b, .int .i64 0, .int .i64 0] 62)))
              have HY14 := Lib.hid ((hb14.block _ (by have := blk_lt HY13.out; simp; omega)).trans (blk_alloc HY13.out (.cells #[.string k, .string a, .int .i64 0, .int .i64 0, .string j, .string b, .int .i64 0, .int .i64 0] 62)))
              have HZ14 := Lib.hid ((hb14.block (w13.heap.size) (by simp)).trans (heap_alloc_new w13 (.cells #[.string k, .string a, .int .i64 0, .int .i64 0, .string j, .string b, .int .i64 0, .int .i64 0] 62)))
              have HB14 := Lib.hid ((below_alloc (HB13.out) (.cells #[.string k, .string a, .int .i64 0, .int .i64 0, .string j, .string b, .int .i64 0, .int .i64 0] 62)).trans (hb14.mono (by have := HB13.out.size; simp; omega)))
              clear hb14
              by_cases hto : t.data.toList = o.data.toList
              · have g5 : (o.toList == t.toList) = true := by rw [Lib.toList_data, Lib.toList_data]; exact beq_iff_eq.2 hto.symm
                go_wp2
                go_ret
                exact ⟨by first | rfl | (simp; done), HB14.out⟩
              · have g5 : (o.toList == t.toList) = false := by rw [Lib.toList_data, Lib.toList_data]; exact beq_eq_false_iff_ne.2 (fun h => hto h.symm)
                go_wp2_with fail
                refine (N1.out o 0 (by simp [hto]) _ _ (HZ14.out)).mono ?_
                rintro e w15 ⟨rfl, hb15⟩
                have HR15 := Lib.hid ((hb15.block _ (by have := blk_lt HR14.out; exact this)).trans HR14.out)
                have HT15 := Lib.hid ((hb15.block _ (by have := blk_lt HT14.out; exact this)).trans HT14.out)
                have HX15 := Lib.hid ((hb15.block _ (by have := blk_lt HX14.out; exact this)).trans HX14.out)
                have HY15 := Lib.hid ((hb15.block _ (by have := blk_lt HY14.out; exact this)).trans HY14.out)
                have HZ15 := Lib.hid ((hb15.block _ (by have := blk_lt HZ14.out; exact this)).trans HZ14.out)
                have HB15 := Lib.hid ((HB14.out).trans (hb15.mono (by have := HB14.out.size; omega)))
                clear hb15
                go_wp2
                go_ret
                exact ⟨by first | rfl | (simp; done), HB15.out⟩
theorem RecordWhose_walk (t c o : ByteArray) (cs0 : Array Value) (x0 : ByteArray × Int × Int × Bool) (cs1 : Array Value) (x1 : Int × Int) (w : World) (ht : t.size ≤ 140737488351232) (hc : c.size ≤ 140737488351232) (ho : o.size ≤ 140737488351232) (hK0 : (Kd.pair Kd.string (Kd.pair OP.I64 (Kd.pair OP.I64 Kd.bool))).K w x0 cs0.toList) (ok0 : OP.small x0.1 ∧ OP.wf64 x0.2.1 ∧ OP.wf64 x0.2.2.1 ∧ True) (hK1 : (Kd.pair OP.I64 OP.I64).K w x1 cs1.toList) (ok1 : OP.wf64 x1.1 ∧ OP.wf64 x1.2) :
    Calls Try.prog 19 #[.string t, .string c, .string o, .agg cs0, .agg cs1] w fun e w' => e = .returned (.bool true) ∧ Below w.heap.size w w' := by
  rw [OP.rec_cells hK0, OP.ten_cells hK1]
  exact RecordWhose_core t c o _ _ _ _ _ _ w ht hc ho ok0.1
end Go.Proofs.Ytobanhbjkomieaa.RP
