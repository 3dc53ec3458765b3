import Derived.Test.YtobanhbjkomieaaRZ
namespace Go.Proofs.Ytobanhbjkomieaa.RP
open Go.RowKit Go.Proofs.Ytobanhbjkomieaa.PAll Go.Proofs.Ytobanhbjkomieaa.KP Go.Proofs.Ytobanhbjkomieaa.BP Go.Proofs.YtobanhbjkomieaaW.PrintWords Go.Proofs.YtobanhbjkomieaaW.PrintLast Go.Proofs.YtobanhbjkomieaaW.PrintMore
set_option linter.unusedSimpArgs false
set_option linter.unusedVariables false
attribute [local go_sem high] EQ.eqA23 EQ.eqA25 EQ.eqA113
theorem decBoth (s : ByteArray) (hs : s.size ≤ 140737488351232) : ∃ (rep : ByteArray) (ep tm : Int) (gone : Bool) (e : Int), decRc s.data.toList = (rcOf rep ep tm gone, e) ∧
    (∀ W, Calls Try.prog 75 #[.string s] W fun r w' => r = .returned (.tuple #[.agg #[.string rep, .int .i64 ep, .int .i64 tm, .bool gone], .int .i64 e]) ∧ Below W.heap.size W w') ∧
    (∀ W, Calls Try.prog 76 #[.string s] W fun r w' => r = .returned (.tuple #[.agg #[.string rep, .int .i64 ep, .int .i64 tm, .bool gone], .int .i64 e]) ∧ Below W.heap.size W w') :=
  ⟨⟨(decRc s.data.toList).1.rep.toArray⟩, (decRc s.data.toList).1.ep, (decRc s.data.toList).1.tm, (decRc s.data.toList).1.gone, (decRc s.data.toList).2, rfl, fun W => decode_any s hs W, fun W => refDecode_any s hs W⟩
theorem decTBoth (s : ByteArray) (hs : s.size ≤ 140737488351232) : ∃ (live ep e : Int), decTn s.data.toList = (⟨live, ep⟩, e) ∧
    (∀ W, Calls Try.prog 77 #[.string s] W fun r w' => r = .returned (.tuple #[.agg #[.int .i64 live, .int .i64 ep], .int .i64 e]) ∧ Below W.heap.size W w') ∧
    (∀ W, Calls Try.prog 78 #[.string s] W fun r w' => r = .returned (.tuple #[.agg #[.int .i64 live, .int .i64 ep], .int .i64 e]) ∧ Below W.heap.size W w') :=
  ⟨(decTn s.data.toList).1.live, (decTn s.data.toList).1.ep, (decTn s.data.toList).2, rfl, fun W => decodeTen_any s hs W, fun W => refDecodeTen_any s hs W⟩
theorem readBoth (k s : ByteArray) (hk : k.size ≤ 140737488351232) (hs : s.size ≤ 140737488351232) : ∃ (ten cl rep : ByteArray) (ep tm : Int) (gone : Bool) (live eps e : Int), readIt k.data.toList s.data.toList = (⟨ten.data.toList, cl.data.toList, rcOf rep ep tm gone, ⟨live, eps⟩⟩, e) ∧
    (∀ W, Calls Try.prog 79 #[.string k, .string s] W fun r w' => r = .returned (.tuple #[.agg #[.string ten, .string cl, .string rep, .int .i64 ep, .int .i64 tm, .bool gone, .int .i64 live, .int .i64 eps], .int .i64 e]) ∧ Below W.heap.size W w') ∧
    (∀ W, Calls Try.prog 80 #[.string k, .string s] W fun r w' => r = .returned (.tuple #[.agg #[.string ten, .string cl, .string rep, .int .i64 ep, .int .i64 tm, .bool gone, .int .i64 live, .int .i64 eps], .int .i64 e]) ∧ Below W.heap.size W w') :=
  ⟨⟨(readIt k.data.toList s.data.toList).1.ten.toArray⟩, ⟨(readIt k.data.toList s.data.toList).1.cl.toArray⟩, ⟨(readIt k.data.toList s.data.toList).1.rc.rep.toArray⟩, (readIt k.data.toList s.data.toList).1.rc.ep, (readIt k.data.toList s.data.toList).1.rc.tm, (readIt k.data.toList s.data.toList).1.rc.gone, (readIt k.data.toList s.data.toList).1.tn.live, (readIt k.data.toList s.data.toList).1.tn.ep, (readIt k.data.toList s.data.toList).2, rfl, fun W => readRec_any k s hk hs W, fun W => refReadRec_any k s hk hs W⟩
set_option maxHeartbeats 2000000 in
set_option maxRecDepth 100000 in
theorem RecordReads_walk (s key : ByteArray) (w : World) (hs : s.size ≤ 140737488351232) (hk : key.size ≤ 140737488351232) :
    Calls Try.prog 13 #[.string s, .string key] w fun e w' => e = .returned (.bool true) ∧ Below w.heap.size w w' := by
  by_cases h0 : 10000 < s.size
  · go_enter Try.func13, Try.ntmps13
    go_wp2_with fail
    refine (awake_any _).mono ?_
    rintro e w' ⟨rfl, hb⟩
    go_wp2
    go_ret
    exact ⟨rfl, hb⟩
  by_cases h1 : 10000 < key.size
  · go_enter Try.func13, Try.ntmps13
    go_wp2_with fail
    refine (awake_any _).mono ?_
    rintro e w' ⟨rfl, hb⟩
    go_wp2
    go_ret
    exact ⟨rfl, hb⟩
  obtain ⟨rep, ep, tm, gone, e1, _, c1, c2⟩ := decBoth s hs
  obtain ⟨live, eps, e2, _, c3, c4⟩ := decTBoth s hs
  obtain ⟨ten, cl, rp, ip, im, ig, il, ie, e3, _, c5, c6⟩ := readBoth key s hk hs
  have C1 := Lib.hid c1
  have C2 := Lib.hid c2
  have C3 := Lib.hid c3
  have C4 := Lib.hid c4
  have C5 := Lib.hid c5
  have C6 := Lib.hid c6
  clear c1 c2 c3 c4 c5 c6
  go_enter Try.func13, Try.ntmps13
  go_wp2_with fail
  refine (C1.out _).mono ?_
  rintro e w1 ⟨rfl, hb1⟩
  have HB1 := Lib.hid (hb1)
  clear hb1
  go_wp2_with fail
  refine (C2.out _).mono ?_
  rintro e w2 ⟨rfl, hb2⟩
  have HA_2 := Lib.hid ((hb2.block w1.heap.size (by simp)).trans (heap_alloc_new w1 _))
  have HB2 := Lib.hid ((HB1.out.alloc HB1.out.size (.cells #[.string rep, .int .i64 ep, .int .i64 tm, .bool gone] 23)).trans (hb2.mono (by have := HB1.out.size; simp; omega)))
  clear hb2
  go_wp2_with fail
  refine (C3.out _).mono ?_
  rintro e w3 ⟨rfl, hb3⟩
  have HB_3 := Lib.hid ((hb3.block w2.heap.size (by simp)).trans (heap_alloc_new w2 _))
  have HA_3 := Lib.hid ((hb3.block _ (by have := blk_lt HA_2.out; simp; omega)).trans (blk_alloc HA_2.out _))
  have HB3 := Lib.hid ((HB2.out.alloc HB2.out.size (.cells #[.string rep, .int .i64 ep, .int .i64 tm, .bool gone] 23)).trans (hb3.mono (by have := HB2.out.size; simp; omega)))
  clear hb3
  go_wp2_with fail
  refine (C4.out _).mono ?_
  rintro e w4 ⟨rfl, hb4⟩
  have HC_4 := Lib.hid ((hb4.block w3.heap.size (by simp)).trans (heap_alloc_new w3 _))
  have HA_4 := Lib.hid ((hb4.block _ (by have := blk_lt HA_3.out; simp; omega)).trans (blk_alloc HA_3.out _))
  have HB_4 := Lib.hid ((hb4.block _ (by have := blk_lt HB_3.out; simp; omega)).trans (blk_alloc HB_3.out _))
  have HB4 := Lib.hid ((HB3.out.alloc HB3.out.size (.cells #[.int .i64 live, .int .i64 eps] 25)).trans (hb4.mono (by have := HB3.out.size; simp; omega)))
  clear hb4
  go_wp2_with fail
  refine (C5.out _).mono ?_
  rintro e w5 ⟨rfl, hb5⟩
  have HD_5 := Lib.hid ((hb5.block w4.heap.size (by simp)).trans (heap_alloc_new w4 _))
  have HA_5 := Lib.hid ((hb5.block _ (by have := blk_lt HA_4.out; simp; omega)).trans (blk_alloc HA_4.out _))
  have HB_5 := Lib.hid ((hb5.block _ (by have := blk_lt HB_4.out; simp; omega)).trans (blk_alloc HB_4.out _))
  have HC_5 := Lib.hid ((hb5.block _ (by have := blk_lt HC_4.out; simp; omega)).trans (blk_alloc HC_4.out _))
  have HB5 := Lib.hid ((HB4.out.alloc HB4.out.size (.cells #[.int .i64 live, .int .i64 eps] 25)).trans (hb5.mono (by have := HB4.out.size; simp; omega)))
  clear hb5
  go_wp2_with fail
  refine (C6.out _).mono ?_
  rintro e w6 ⟨rfl, hb6⟩
  have HE_6 := Lib.hid ((hb6.block w5.heap.size (by simp)).trans (heap_alloc_new w5 _))
  have HA_6 := Lib.hid ((hb6.block _ (by have := blk_lt HA_5.out; simp; omega)).trans (blk_alloc HA_5.out _))
  have HB_6 := Lib.hid ((hb6.block _ (by have := blk_lt HB_5.out; simp; omega)).trans (blk_alloc HB_5.out _))
  have HC_6 := Lib.hid ((hb6.block _ (by have := blk_lt HC_5.out; simp; omega)).trans (blk_alloc HC_5.out _))
  have HD_6 := Lib.hid ((hb6.block _ (by have := blk_lt HD_5.out; simp; omega)).trans (blk_alloc HD_5.out _))
  have HB6 := Lib.hid ((HB5.out.alloc HB5.out.size (.cells #[.string ten, .string cl, .string rp, .int .i64 ip, .int .i64 im, .bool ig, .int .i64 il, .int .i64 ie] 113)).trans (hb6.mono (by have := HB5.out.size; simp; omega)))
  clear hb6
  have hcA0 := blk_cell (blk_alloc HA_6.out (.cells #[.string ten, .string cl, .string rp, .int .i64 ip, .int .i64 im, .bool ig, .int .i64 il, .int .i64 ie] 116)) 0
  have hcA1 := blk_cell (blk_alloc HA_6.out (.cells #[.string ten, .string cl, .string rp, .int .i64 ip, .int .i64 im, .bool ig, .int .i64 il, .int .i64 ie] 116)) 1
  have hcA2 := blk_cell (blk_alloc HA_6.out (.cells #[.string ten, .string cl, .string rp, .int .i64 ip, .int .i64 im, .bool ig, .int .i64 il, .int .i64 ie] 116)) 2
  have hcA3 := blk_cell (blk_alloc HA_6.out (.cells #[.string ten, .string cl, .string rp, .int .i64 ip, .int .i64 im, .bool ig, .int .i64 il, .int .i64 ie] 116)) 3
  have hcB0 := blk_cell (blk_alloc HB_6.out (.cells #[.string ten, .string cl, .string rp, .int .i64 ip, .int .i64 im, .bool ig, .int .i64 il, .int .i64 ie] 116)) 0
  have hcB1 := blk_cell (blk_alloc HB_6.out (.cells #[.string ten, .string cl, .string rp, .int .i64 ip, .int .i64 im, .bool ig, .int .i64 il, .int .i64 ie] 116)) 1
  have hcB2 := blk_cell (blk_alloc HB_6.out (.cells #[.string ten, .string cl, .string rp, .int .i64 ip, .int .i64 im, .bool ig, .int .i64 il, .int .i64 ie] 116)) 2
  have hcB3 := blk_cell (blk_alloc HB_6.out (.cells #[.string ten, .string cl, .string rp, .int .i64 ip, .int .i64 im, .bool ig, .int .i64 il, .int .i64 ie] 116)) 3
  have hcC0 := blk_cell (blk_alloc HC_6.out (.cells #[.string ten, .string cl, .string rp, .int .i64 ip, .int .i64 im, .bool ig, .int .i64 il, .int .i64 ie] 116)) 0
  have hcC1 := blk_cell (blk_alloc HC_6.out (.cells #[.string ten, .string cl, .string rp, .int .i64 ip, .int .i64 im, .bool ig, .int .i64 il, .int .i64 ie] 116)) 1
  have hcD0 := blk_cell (blk_alloc HD_6.out (.cells #[.string ten, .string cl, .string rp, .int .i64 ip, .int .i64 im, .bool ig, .int .i64 il, .int .i64 ie] 116)) 0
  have hcD1 := blk_cell (blk_alloc HD_6.out (.cells #[.string ten, .string cl, .string rp, .int .i64 ip, .int .i64 im, .bool ig, .int .i64 il, .int .i64 ie] 116)) 1
  have hcE0 := blk_cell (blk_alloc HE_6.out (.cells #[.string ten, .string cl, .string rp, .int .i64 ip, .int .i64 im, .bool ig, .int .i64 il, .int .i64 ie] 116)) 0
  have hcE1 := blk_cell (blk_alloc HE_6.out (.cells #[.string ten, .string cl, .string rp, .int .i64 ip, .int .i64 im, .bool ig, .int .i64 il, .int .i64 ie] 116)) 1
  have hcE2 := blk_cell (blk_alloc HE_6.out (.cells #[.string ten, .string cl, .string rp, .int .i64 ip, .int .i64 im, .bool ig, .int .i64 il, .int .i64 ie] 116)) 2
  have hcE3 := blk_cell (blk_alloc HE_6.out (.cells #[.string ten, .string cl, .string rp, .int .i64 ip, .int .i64 im, .bool ig, .int .i64 il, .int .i64 ie] 116)) 3
  have hcE4 := blk_cell (blk_alloc HE_6.out (.cells #[.string ten, .string cl, .string rp, .int .i64 ip, .int .i64 im, .bool ig, .int .i64 il, .int .i64 ie] 116)) 4
  have hcE5 := blk_cell (blk_alloc HE_6.out (.cells #[.string ten, .string cl, .string rp, .int .i64 ip, .int .i64 im, .bool ig, .int .i64 il, .int .i64 ie] 116)) 5
  have hcE6 := blk_cell (blk_alloc HE_6.out (.cells #[.string ten, .string cl, .string rp, .int .i64 ip, .int .i64 im, .bool ig, .int .i64 il, .int .i64 ie] 116)) 6
  have hcE7 := blk_cell (blk_alloc HE_6.out (.cells #[.string ten, .string cl, .string rp, .int .i64 ip, .int .i64 im, .bool ig, .int .i64 il, .int .i64 ie] 116)) 7
  have hcF0 := blk_cell (heap_alloc_new w6 (.cells #[.string ten, .string cl, .string rp, .int .i64 ip, .int .i64 im, .bool ig, .int .i64 il, .int .i64 ie] 116)) 0
  have hcF1 := blk_cell (heap_alloc_new w6 (.cells #[.string ten, .string cl, .string rp, .int .i64 ip, .int .i64 im, .bool ig, .int .i64 il, .int .i64 ie] 116)) 1
  have hcF2 := blk_cell (heap_alloc_new w6 (.cells #[.string ten, .string cl, .string rp, .int .i64 ip, .int .i64 im, .bool ig, .int .i64 il, .int .i64 ie] 116)) 2
  have hcF3 := blk_cell (heap_alloc_new w6 (.cells #[.string ten, .string cl, .string rp, .int .i64 ip, .int .i64 im, .bool ig, .int .i64 il, .int .i64 ie] 116)) 3
  have hcF4 := blk_cell (heap_alloc_new w6 (.cells #[.string ten, .string cl, .string rp, .int .i64 ip, .int .i64 im, .bool ig, .int .i64 il, .int .i64 ie] 116)) 4
  have hcF5 := blk_cell (heap_alloc_new w6 (.cells #[.string ten, .string cl, .string rp, .int .i64 ip, .int .i64 im, .bool ig, .int .i64 il, .int .i64 ie] 116)) 5
  have hcF6 := blk_cell (heap_alloc_new w6 (.cells #[.string ten, .string cl, .string rp, .int .i64 ip, .int .i64 im, .bool ig, .int .i64 il, .int .i64 ie] 116)) 6
  have hcF7 := blk_cell (heap_alloc_new w6 (.cells #[.string ten, .string cl, .string rp, .int .i64 ip, .int .i64 im, .bool ig, .int .i64 il, .int .i64 ie] 116)) 7
  simp only [List.getElem?_toArray, List.getElem?_cons_zero, List.getElem?_cons_succ] at hcA0 hcA1 hcA2 hcA3 hcB0 hcB1 hcB2 hcB3 hcC0 hcC1 hcD0 hcD1 hcE0 hcE1 hcE2 hcE3 hcE4 hcE5 hcE6 hcE7 hcF0 hcF1 hcF2 hcF3 hcF4 hcF5 hcF6 hcF7
  have hlA := blk_lt HA_6.out
  have hlB := blk_lt HB_6.out
  have hlC := blk_lt HC_6.out
  have hlD := blk_lt HD_6.out
  have hlE := blk_lt HE_6.out
  go_wp2_with fail
  refine (awake_any _).mono ?_
  rintro e w7 ⟨rfl, hb7⟩
  go_wp2
  go_ret
  exact ⟨rfl, (HB6.out.alloc HB6.out.size _).trans (hb7.mono (by have := HB6.out.size; simp; omega))⟩
end Go.Proofs.Ytobanhbjkomieaa.RP
