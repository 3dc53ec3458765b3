import Derived.Test.YtobanhbjkomieaaRN
namespace Go.Proofs.Ytobanhbjkomieaa.RP
open Go.RowKit Go.Proofs.Ytobanhbjkomieaa.PAll Go.Proofs.Ytobanhbjkomieaa.KP Go.Proofs.Ytobanhbjkomieaa.BP Go.Proofs.YtobanhbjkomieaaW.PrintWords Go.Proofs.YtobanhbjkomieaaW.PrintLast Go.Proofs.YtobanhbjkomieaaW.PrintMore
set_option linter.unusedSimpArgs false
set_option linter.unusedVariables false
attribute [local go_sem high] EQ.eqA23 EQ.eqA25 EQ.eqA113
theorem idx_of (n : Int) (a : ByteArray) (h : 0 < a.size) (hs : a.size ≤ 1000000) : ∃ j : Nat, wrap64 ((IntKind.u64.wrap n).tmod (a.size : Int)) = (j : Int) ∧ j < a.size := by
  have h0 : 0 ≤ IntKind.u64.wrap n := by rw [IntKind.wrap_u64]; omega
  generalize IntKind.u64.wrap n = m at *
  have h1 := Int.emod_nonneg m (show (a.size : Int) ≠ 0 by omega)
  have h2 := Int.emod_lt_of_pos m (show (0 : Int) < (a.size : Int) by omega)
  refine ⟨(m % (a.size : Int)).toNat, ?_, by omega⟩
  rw [Int.tmod_eq_emod_of_nonneg h0, Int.toNat_of_nonneg h1]
  generalize m % (a.size : Int) = q at *
  unfold wrap64
  omega
theorem cutV (a : ByteArray) (k : Nat) : (a.extract 0 k).data.toList = a.data.toList.take k := by simp
theorem addV (a b : ByteArray) : (a ++ b).data.toList = a.data.toList ++ b.data.toList := by simp
theorem decCut {a rep : ByteArray} {ep tm : Int} {gone : Bool} (h : mayRec rep ep tm = true) (ha : a.data.toList = (rcOf rep ep tm gone).bytes) (hs : a.size ≤ 128) (k : Nat) (hk : k < a.size) (W : World) :
    Calls Try.prog 75 #[.string (a.extract 0 k)] W fun r w' => r = .returned (.tuple #[recA ⟨#[]⟩ 0 0 false, .int .i64 8]) ∧ Below W.heap.size W w' :=
  decAs _ (by rw [Lib.size_eq, cutV, List.length_take]; omega) _ _ _ _ _ (by rw [cutV, ha]; exact decRc_cut (r := rcOf rep ep tm gone) h (by rw [← ha, ← Lib.size_eq]; exact hk)) W
theorem decMore {a rep more : ByteArray} {ep tm : Int} {gone : Bool} (h : mayRec rep ep tm = true) (ha : a.data.toList = (rcOf rep ep tm gone).bytes) (hs : a.size ≤ 128) (hm : more.size ≤ 10000) (hne : more.data.toList ≠ []) (W : World) :
    Calls Try.prog 75 #[.string (a ++ more)] W fun r w' => r = .returned (.tuple #[recA ⟨#[]⟩ 0 0 false, .int .i64 4]) ∧ Below W.heap.size W w' :=
  decAs _ (by rw [ByteArray.size_append]; omega) _ _ _ _ _ (by rw [addV, ha, decRc_full (r := rcOf rep ep tm gone) h, if_neg hne]; rfl) W
theorem decSame {a rep more : ByteArray} {ep tm : Int} {gone : Bool} (h : mayRec rep ep tm = true) (ha : a.data.toList = (rcOf rep ep tm gone).bytes) (hs : a.size ≤ 128) (hm : more.data.toList = []) (W : World) :
    Calls Try.prog 75 #[.string (a ++ more)] W fun r w' => r = .returned (.tuple #[recA rep ep tm gone, .int .i64 0]) ∧ Below W.heap.size W w' :=
  decAs _ (by rw [ByteArray.size_append, Lib.size_eq more, hm]; simp; omega) _ _ _ _ _ (by rw [addV, ha, decRc_full (r := rcOf rep ep tm gone) h, if_pos hm]) W
theorem decTCut {a : ByteArray} {live ep : Int} (h : mayTen live ep = true) (ha : a.data.toList = (⟨live, ep⟩ : Tn).bytes) (hs : a.size ≤ 128) (k : Nat) (hk : k < a.size) (W : World) :
    Calls Try.prog 77 #[.string (a.extract 0 k)] W fun r w' => r = .returned (.tuple #[tenA 0 0, .int .i64 8]) ∧ Below W.heap.size W w' :=
  decTAs _ (by rw [Lib.size_eq, cutV, List.length_take]; omega) _ _ _ (by rw [cutV, ha]; exact decTn_cut (t := ⟨live, ep⟩) h (by rw [← ha, ← Lib.size_eq]; exact hk)) W
theorem decTMore {a more : ByteArray} {live ep : Int} (h : mayTen live ep = true) (ha : a.data.toList = (⟨live, ep⟩ : Tn).bytes) (hs : a.size ≤ 128) (hm : more.size ≤ 10000) (hne : more.data.toList ≠ []) (W : World) :
    Calls Try.prog 77 #[.string (a ++ more)] W fun r w' => r = .returned (.tuple #[tenA 0 0, .int .i64 4]) ∧ Below W.heap.size W w' :=
  decTAs _ (by rw [ByteArray.size_append]; omega) _ _ _ (by rw [addV, ha, decTn_full (t := ⟨live, ep⟩) h, if_neg hne]; rfl) W
theorem decTSame {a more : ByteArray} {live ep : Int} (h : mayTen live ep = true) (ha : a.data.toList = (⟨live, ep⟩ : Tn).bytes) (hs : a.size ≤ 128) (hm : more.data.toList = []) (W : World) :
    Calls Try.prog 77 #[.string (a ++ more)] W fun r w' => r = .returned (.tuple #[tenA live ep, .int .i64 0]) ∧ Below W.heap.size W w' :=
  decTAs _ (by rw [ByteArray.size_append, Lib.size_eq more, hm]; simp; omega) _ _ _ (by rw [addV, ha, decTn_full (t := ⟨live, ep⟩) h, if_pos hm]) W
set_option maxHeartbeats 4000000 in
set_option maxRecDepth 100000 in
theorem RecordCut_core (rep : ByteArray) (ep tm : Int) (gone : Bool) (live eps : Int) (n : Int) (more : ByteArray) (w : World) (hs0 : rep.size ≤ maxLen) (hn : OP.wf64 n) (hs : more.size ≤ 140737488351232) :
    Calls Try.prog 16 #[recA rep ep tm gone, tenA live eps, .int .i64 n, .string more] w fun e w' => e = .returned (.bool true) ∧ Below w.heap.size w w' := by
  unfold maxLen at hs0
  have hn' := OP.wf64_bd hn
  by_cases h0 : 10000 < rep.size
  · go_enter Try.func16, Try.ntmps16
    go_wp2_with fail
    refine (awake_any _).mono ?_
    rintro e w1 ⟨rfl, hb1⟩
    have HR1 := Lib.hid ((hb1.block (w.heap.size) (by simp; omega)).trans (blk_alloc (heap_alloc_new w (.cells #[.string rep, .int .i64 ep, .int .i64 tm, .bool gone] 23)) (.cells #[.int .i64 live, .int .i64 eps] 25)))
    have HT1 := Lib.hid ((hb1.block (w.heap.size + 1) (by simp)).trans (heap_alloc_at (w.alloc (.cells #[.string rep, .int .i64 ep, .int .i64 tm, .bool gone] 23)) (.cells #[.int .i64 live, .int .i64 eps] 25) (n := w.heap.size + 1) (by simp)))
    have HB1 := Lib.hid ((below_alloc (below_alloc (Below.refl w.heap.size w) (.cells #[.string rep, .int .i64 ep, .int .i64 tm, .bool gone] 23)) (.cells #[.int .i64 live, .int .i64 eps] 25)).trans (hb1.mono (by simp; try omega)))
    clear hb1
    go_wp2
    go_ret
    exact ⟨by first | rfl | (simp; done), HB1.out⟩
  by_cases h1 : 10000 < more.size
  · go_enter Try.func16, Try.ntmps16
    go_wp2_with fail
    refine (awake_any _).mono ?_
    rintro e w1 ⟨rfl, hb1⟩
    have HR1 := Lib.hid ((hb1.block (w.heap.size) (by simp; omega)).trans (blk_alloc (heap_alloc_new w (.cells #[.string rep, .int .i64 ep, .int .i64 tm, .bool gone] 23)) (.cells #[.int .i64 live, .int .i64 eps] 25)))
    have HT1 := Lib.hid ((hb1.block (w.heap.size + 1) (by simp)).trans (heap_alloc_at (w.alloc (.cells #[.string rep, .int .i64 ep, .int .i64 tm, .bool gone] 23)) (.cells #[.int .i64 live, .int .i64 eps] 25) (n := w.heap.size + 1) (by simp)))
    have HB1 := Lib.hid ((below_alloc (below_alloc (Below.refl w.heap.size w) (.cells #[.string rep, .int .i64 ep, .int .i64 tm, .bool gone] 23)) (.cells #[.int .i64 live, .int .i64 eps] 25)).trans (hb1.mono (by simp; try omega)))
    clear hb1
    go_wp2
    go_ret
    exact ⟨by first | rfl | (simp; done), HB1.out⟩
  have hr : rep.size ≤ 140737488351232 := by omega
  have k1 := encCase rep hr ep tm gone
  have k2 := encTCase live eps
  have hmo : more.size ≤ 10000 := by omega
  have K1 := Lib.hid k1
  have K2 := Lib.hid k2
  clear k1 k2
  go_enter Try.func16, Try.ntmps16
  go_wp2_with fail
  refine (awake_any _).mono ?_
  rintro e w1 ⟨rfl, hb1⟩
  have HR1 := Lib.hid ((hb1.block (w.heap.size) (by simp; omega)).trans (blk_alloc (heap_alloc_new w (.cells #[.string rep, .int .i64 ep, .int .i64 tm, .bool gone] 23)) (.cells #[.int .i64 live, .int .i64 eps] 25)))
  have HT1 := Lib.hid ((hb1.block (w.heap.size + 1) (by simp)).trans (heap_alloc_at (w.alloc (.cells #[.string rep, .int .i64 ep, .int .i64 tm, .bool gone] 23)) (.cells #[.int .i64 live, .int .i64 eps] 25) (n := w.heap.size + 1) (by simp)))
  have HB1 := Lib.hid ((below_alloc (below_alloc (Below.refl w.heap.size w) (.cells #[.string rep, .int .i64 ep, .int .i64 tm, .bool gone] 23)) (.cells #[.int .i64 live, .int .i64 eps] 25)).trans (hb1.mono (by simp; try omega)))
  clear hb1
  rcases K1.out with ⟨hm, a, ha1, ha2, ha3, f1, _⟩ | ⟨hm, f1⟩
  · obtain ⟨j, hj1, hj2⟩ := idx_of n a ha2 (by omega)
    have hwa : IntKind.u64.wrap (a.size : Int) = a.size := by rw [IntKind.wrap_u64]; omega
    have hsum : (9223372036854775807 < a.size + more.size) = False := eq_false (by omega)
    have hj0 : (a.size : Int) ≠ 0 := by omega
    have F1 := Lib.hid f1
    clear f1
    have g1 := fun W => decCut hm ha3 ha1 j hj2 W
    have G1 := Lib.hid g1
    clear g1
    have hcR0 := blk_cell HR1.out 0
    have hcR1 := blk_cell HR1.out 1
    have hcR2 := blk_cell HR1.out 2
    have hcR3 := blk_cell HR1.out 3
    have hlR := blk_lt HR1.out
    simp only [List.getElem?_toArray, List.getElem?_cons_zero, List.getElem?_cons_succ] at hcR0 hcR1 hcR2 hcR3
    go_wp2_with fail
    refine (F1.out _).mono ?_
    rintro e w2 ⟨rfl, hb2⟩
    clear hcR0 hcR1 hcR2 hcR3 hlR
    have HR2 := Lib.hid ((hb2.block _ (by have := blk_lt HR1.out; exact this)).trans HR1.out)
    have HT2 := Lib.hid ((hb2.block _ (by have := blk_lt HT1.out; exact this)).trans HT1.out)
    have HB2 := Lib.hid ((HB1.out).trans (hb2.mono (by have := HB1.out.size; omega)))
    clear hb2
    go_wp2_with fail
    refine (G1.out _).mono ?_
    rintro e w3 ⟨rfl, hb3⟩
    have HR3 := Lib.hid ((hb3.block _ (by have := blk_lt HR2.out; exact this)).trans HR2.out)
    have HT3 := Lib.hid ((hb3.block _ (by have := blk_lt HT2.out; exact this)).trans HT2.out)
    have HB3 := Lib.hid ((HB2.out).trans (hb3.mono (by have := HB2.out.size; omega)))
    clear hb3
    by_cases hmo2 : more.data.toList = []
    · have q1 := fun W => decSame hm ha3 ha1 hmo2 W
      have Q1 := Lib.hid q1
      clear q1
      have e1 : more.toList = [] := by rw [Lib.toList_data]; exact hmo2
      go_wp2_with fail
      refine (Q1.out _).mono ?_
      rintro e w4 ⟨rfl, hb4⟩
      have HR4 := Lib.hid ((hb4.block _ (by have := blk_lt HR3.out; simp; omega)).trans (blk_alloc HR3.out (.cells #[.string ⟨#[]⟩, .int .i64 0, .int .i64 0, .bool false] 23)))
      have HT4 := Lib.hid ((hb4.block _ (by have := blk_lt HT3.out; simp; omega)).trans (blk_alloc HT3.out (.cells #[.string ⟨#[]⟩, .int .i64 0, .int .i64 0, .bool false] 23)))
      have HX4 := Lib.hid ((hb4.block (w3.heap.size) (by simp)).trans (heap_alloc_new w3 (.cells #[.string ⟨#[]⟩, .int .i64 0, .int .i64 0, .bool false] 23)))
      have HB4 := Lib.hid ((below_alloc (HB3.out) (.cells #[.string ⟨#[]⟩, .int .i64 0, .int .i64 0, .bool false] 23)).trans (hb4.mono (by have := HB3.out.size; simp; omega)))
      clear hb4
      clear hj1 hj2 hwa hsum hj0 ha1 ha2 ha3 hm
      rcases K2.out with ⟨hm, b, ha1, ha2, ha3, f1, _⟩ | ⟨hm, f1⟩
      · obtain ⟨j, hj1, hj2⟩ := idx_of n b ha2 (by omega)
        have hwa : IntKind.u64.wrap (b.size : Int) = b.size := by rw [IntKind.wrap_u64]; omega
        have hsum : (9223372036854775807 < b.size + more.size) = False := eq_false (by omega)
        have hj0 : (b.size : Int) ≠ 0 := by omega
        have F1 := Lib.hid f1
        clear f1
        have g1 := fun W => decTCut hm ha3 ha1 j hj2 W
        have G1 := Lib.hid g1
        clear g1
        have hcT0 := blk_cell HT4.out 0
        have hcT1 := blk_cell HT4.out 1
        have hlT := blk_lt HT4.out
        simp only [List.getElem?_toArray, List.getElem?_cons_zero, List.getElem?_cons_succ] at hcT0 hcT1
        go_wp2_with fail
        refine (F1.out _).mono ?_
        rintro e w5 ⟨rfl, hb5⟩
        clear hcT0 hcT1 hlT
        have HR5 := Lib.hid ((hb5.block _ (by have := blk_lt HR4.out; simp; omega)).trans (blk_alloc HR4.out (.cells #[.string rep, .int .i64 ep, .int .i64 tm, .bool gone] 23)))
        have HT5 := Lib.hid ((hb5.block _ (by have := blk_lt HT4.out; simp; omega)).trans (blk_alloc HT4.out (.cells #[.string rep, .int .i64 ep, .int .i64 tm, .bool gone] 23)))
        have HX5 := Lib.hid ((hb5.block _ (by have := blk_lt HX4.out; simp; omega)).trans (blk_alloc HX4.out (.cells #[.string rep, .int .i64 ep, .int .i64 tm, .bool gone] 23)))
        have HY5 := Lib.hid ((hb5.block (w4.heap.size) (by simp)).trans (heap_alloc_new w4 (.cells #[.string rep, .int .i64 ep, .int .i64 tm, .bool gone] 23)))
        have HB5 := Lib.hid ((below_alloc (HB4.out) (.cells #[.string rep, .int .i64 ep, .int .i64 tm, .bool gone] 23)).trans (hb5.mono (by have := HB4.out.size; simp; omega)))
        clear hb5
        go_wp2_with fail
        refine (G1.out _).mono ?_
        rintro e w6 ⟨rfl, hb6⟩
        have HR6 := Lib.hid ((hb6.block _ (by have := blk_lt HR5.out; exact this)).trans HR5.out)
        have HT6 := Lib.hid ((hb6.block _ (by have := blk_lt HT5.out; exact this)).trans HT5.out)
        have HX6 := Lib.hid ((hb6.block _ (by have := blk_lt HX5.out; exact this)).trans HX5.out)
        have HY6 := Lib.hid ((hb6.block _ (by have := blk_lt HY5.out; exact this)).trans HY5.out)
        have HB6 := Lib.hid ((HB5.out).trans (hb6.mono (by have := HB5.out.size; omega)))
        clear hb6
        have q1 := fun W => decTSame hm ha3 ha1 hmo2 W
        have Q1 := Lib.hid q1
        clear q1
        go_wp2_with fail
        refine (Q1.out _).mono ?_
        rintro e w7 ⟨rfl, hb7⟩
        have HR7 := Lib.hid ((hb7.block _ (by have := blk_lt HR6.out; simp; omega)).trans (blk_alloc HR6.out (.cells #[.int .i64 0, .int .i64 0] 25)))
        have HT7 := Lib.hid ((hb7.block _ (by have := blk_lt HT6.out; simp; omega)).trans (blk_alloc HT6.out (.cells #[.int .i64 0, .int .i64 0] 25)))
        have HX7 := Lib.hid ((hb7.block _ (by have := blk_lt HX6.out; simp; omega)).trans (blk_alloc HX6.out (.cells #[.int .i64 0, .int .i64 0] 25)))
        have HY7 := Lib.hid ((hb7.block _ (by have := blk_lt HY6.out; simp; omega)).trans (blk_alloc HY6.out (.cells #[.int .i64 0, .int .i64 0] 25)))
        have HU7 := Lib.hid ((hb7.block (w6.heap.size) (by simp)).trans (heap_alloc_new w6 (.cells #[.int .i64 0, .int .i64 0] 25)))
        have HB7 := Lib.hid ((below_alloc (HB6.out) (.cells #[.int .i64 0, .int .i64 0] 25)).trans (hb7.mono (by have := HB6.out.size; simp; omega)))
        clear hb7
        go_wp2
        go_ret
        exact ⟨by first | rfl | (simp; done), below_alloc (HB7.out) (.cells #[.int .i64 live, .int .i64 eps] 25)⟩
      · clear hm
        have F1 := Lib.hid f1
        clear f1
        have hcT0 := blk_cell HT4.out 0
        have hcT1 := blk_cell HT4.out 1
        have hlT := blk_lt HT4.out
        simp only [List.getElem?_toArray, List.getElem?_cons_zero, List.getElem?_cons_succ] at hcT0 hcT1
        go_wp2_with fail
        refine (F1.out _).mono ?_
        rintro e w5 ⟨rfl, hb5⟩
        clear hcT0 hcT1 hlT
        have HR5 := Lib.hid ((hb5.block _ (by have := blk_lt HR4.out; simp; omega)).trans (blk_alloc HR4.out (.cells #[.string rep, .int .i64 ep, .int .i64 tm, .bool gone] 23)))
        have HT5 := Lib.hid ((hb5.block _ (by have := blk_lt HT4.out; simp; omega)).trans (blk_alloc HT4.out (.cells #[.string rep, .int .i64 ep, .int .i64 tm, .bool gone] 23)))
        have HX5 := Lib.hid ((hb5.block _ (by have := blk_lt HX4.out; simp; omega)).trans (blk_alloc HX4.out (.cells #[.string rep, .int .i64 ep, .int .i64 tm, .bool gone] 23)))
        have HY5 := Lib.hid ((hb5.block (w4.heap.size) (by simp)).trans (heap_alloc_new w4 (.cells #[.string rep, .int .i64 ep, .int .i64 tm, .bool gone] 23)))
        have HB5 := Lib.hid ((below_alloc (HB4.out) (.cells #[.string rep, .int .i64 ep, .int .i64 tm, .bool gone] 23)).trans (hb5.mono (by have := HB4.out.size; simp; omega)))
        clear hb5
        go_wp2
        go_ret
        exact ⟨by first | rfl | (simp; done), HB5.out⟩
    · have q1 := fun W => decMore hm ha3 ha1 hmo hmo2 W
      have Q1 := Lib.hid q1
      clear q1
      have e1 : more.toList.isEmpty = false := by rw [Lib.toList_data]; exact List.isEmpty_eq_false_iff.2 hmo2
      have e2 : ¬ more.toList = [] := by rw [Lib.toList_data]; exact hmo2
      go_wp2_with fail
      refine (Q1.out _).mono ?_
      rintro e w4 ⟨rfl, hb4⟩
      have HR4 := Lib.hid ((hb4.block _ (by have := blk_lt HR3.out; simp; omega)).trans (blk_alloc HR3.out (.cells #[.string ⟨#[]⟩, .int .i64 0, .int .i64 0, .bool false] 23)))
      have HT4 := Lib.hid ((hb4.block _ (by have := blk_lt HT3.out; simp; omega)).trans (blk_alloc HT3.out (.cells #[.string ⟨#[]⟩, .int .i64 0, .int .i64 0, .bool false] 23)))
      have HX4 := Lib.hid ((hb4.block (w3.heap.size) (by simp)).trans (heap_alloc_new w3 (.cells #[.string ⟨#[]⟩, .int .i64 0, .int .i64 0, .bool false] 23)))
      have HB4 := Lib.hid ((below_alloc (HB3.out) (.cells #[.string ⟨#[]⟩, .int .i64 0, .int .i64 0, .bool false] 23)).trans (hb4.mono (by have := HB3.out.size; simp; omega)))
      clear hb4
      clear hj1 hj2 hwa hsum hj0 ha1 ha2 ha3 hm
      rcases K2.out with ⟨hm, b, ha1, ha2, ha3, f1, _⟩ | ⟨hm, f1⟩
      · obtain ⟨j, hj1, hj2⟩ := idx_of n b ha2 (by omega)
        have hwa : IntKind.u64.wrap (b.size : Int) = b.size := by rw [IntKind.wrap_u64]; omega
        have hsum : (9223372036854775807 < b.size + more.size) = False := eq_false (by omega)
        have hj0 : (b.size : Int) ≠ 0 := by omega
        have F1 := Lib.hid f1
        clear f1
        have g1 := fun W => decTCut hm ha3 ha1 j hj2 W
        have G1 := Lib.hid g1
        clear g1
        have hcT0 := blk_cell HT4.out 0
        have hcT1 := blk_cell HT4.out 1
        have hlT := blk_lt HT4.out
        simp only [List.getElem?_toArray, List.getElem?_cons_zero, List.getElem?_cons_succ] at hcT0 hcT1
        go_wp2_with fail
        refine (F1.out _).mono ?_
        rintro e w5 ⟨rfl, hb5⟩
        clear hcT0 hcT1 hlT
        have HR5 := Lib.hid ((hb5.block _ (by have := blk_lt HR4.out; simp; omega)).trans (blk_alloc HR4.out (.cells #[.string ⟨#[]⟩, .int .i64 0, .int .i64 0, .bool false] 23)))
        have HT5 := Lib.hid ((hb5.block _ (by have := blk_lt HT4.out; simp; omega)).trans (blk_alloc HT4.out (.cells #[.string ⟨#[]⟩, .int .i64 0, .int .i64 0, .bool false] 23)))
        have HX5 := Lib.hid ((hb5.block _ (by have := blk_lt HX4.out; simp; omega)).trans (blk_alloc HX4.out (.cells #[.string ⟨#[]⟩, .int .i64 0, .int .i64 0, .bool false] 23)))
        have HY5 := Lib.hid ((hb5.block (w4.heap.size) (by simp)).trans (heap_alloc_new w4 (.cells #[.string ⟨#[]⟩, .int .i64 0, .int .i64 0, .bool false] 23)))
        have HB5 := Lib.hid ((below_alloc (HB4.out) (.cells #[.string ⟨#[]⟩, .int .i64 0, .int .i64 0, .bool false] 23)).trans (hb5.mono (by have := HB4.out.size; simp; omega)))
        clear hb5
        go_wp2_with fail
        refine (G1.out _).mono ?_
        rintro e w6 ⟨rfl, hb6⟩
        have HR6 := Lib.hid ((hb6.block _ (by have := blk_lt HR5.out; exact this)).trans HR5.out)
        have HT6 := Lib.hid ((hb6.block _ (by have := blk_lt HT5.out; exact this)).trans HT5.out)
        have HX6 := Lib.hid ((hb6.block _ (by have := blk_lt HX5.out; exact this)).trans HX5.out)
        have HY6 := Lib.hid ((hb6.block _ (by have := blk_lt HY5.out; exact this)).trans HY5.out)
        have HB6 := Lib.hid ((HB5.out).trans (hb6.mono (by have := HB5.out.size; omega)))
        clear hb6
        have q1 := fun W => decTMore hm ha3 ha1 hmo hmo2 W
        have Q1 := Lib.hid q1
        clear q1
        go_wp2_with fail
        refine (Q1.out _).mono ?_
        rintro e w7 ⟨rfl, hb7⟩
        have HR7 := Lib.hid ((hb7.block _ (by have := blk_lt HR6.out; simp; omega)).trans (blk_alloc HR6.out (.cells #[.int .i64 0, .int .i64 0] 25)))
        have HT7 := Lib.hid ((hb7.block _ (by have := blk_lt HT6.out; simp; omega)).trans (blk_alloc HT6.out (.cells #[.int .i64 0, .int .i64 0] 25)))
        have HX7 := Lib.hid ((hb7.block _ (by have := blk_lt HX6.out; simp; omega)).trans (blk_alloc HX6.out (.cells #[.int .i64 0, .int .i64 0] 25)))
        have HY7 := Lib.hid ((hb7.block _ (by have := blk_lt HY6.out; simp; omega)).trans (blk_alloc HY6.out (.cells #[.int .i64 0, .int .i64 0] 25)))
        have HU7 := Lib.hid ((hb7.block (w6.heap.size) (by simp)).trans (heap_alloc_new w6 (.cells #[.int .i64 0, .int .i64 0] 25)))
        have HB7 := Lib.hid ((below_alloc (HB6.out) (.cells #[.int .i64 0, .int .i64 0] 25)).trans (hb7.mono (by have := HB6.out.size; simp; omega)))
        clear hb7
        go_wp2
        go_ret
        exact ⟨by first | rfl | (simp; done), below_alloc (HB7.out) (.cells #[.int .i64 0, .int .i64 0] 25)⟩
      · clear hm
        have F1 := Lib.hid f1
        clear f1
        have hcT0 := blk_cell HT4.out 0
        have hcT1 := blk_cell HT4.out 1
        have hlT := blk_lt HT4.out
        simp only [List.getElem?_toArray, List.getElem?_cons_zero, List.getElem?_cons_succ] at hcT0 hcT1
        go_wp2_with fail
        refine (F1.out _).mono ?_
        rintro e w5 ⟨rfl, hb5⟩
        clear hcT0 hcT1 hlT
        have HR5 := Lib.hid ((hb5.block _ (by have := blk_lt HR4.out; simp; omega)).trans (blk_alloc HR4.out (.cells #[.string ⟨#[]⟩, .int .i64 0, .int .i64 0, .bool false] 23)))
        have HT5 := Lib.hid ((hb5.block _ (by have := blk_lt HT4.out; simp; omega)).trans (blk_alloc HT4.out (.cells #[.string ⟨#[]⟩, .int .i64 0, .int .i64 0, .bool false] 23)))
        have HX5 := Lib.hid ((hb5.block _ (by have := blk_lt HX4.out; simp; omega)).trans (blk_alloc HX4.out (.cells #[.string ⟨#[]⟩, .int .i64 0, .int .i64 0, .bool false] 23)))
        have HY5 := Lib.hid ((hb5.block (w4.heap.size) (by simp)).trans (heap_alloc_new w4 (.cells #[.string ⟨#[]⟩, .int .i64 0, .int .i64 0, .bool false] 23)))
        have HB5 := Lib.hid ((below_alloc (HB4.out) (.cells #[.string ⟨#[]⟩, .int .i64 0, .int .i64 0, .bool false] 23)).trans (hb5.mono (by have := HB4.out.size; simp; omega)))
        clear hb5
        go_wp2
        go_ret
        exact ⟨by first | rfl | (simp; done), HB5.out⟩
  · clear hm
    have F1 := Lib.hid f1
    clear f1
    have hcR0 := blk_cell HR1.out 0
    have hcR1 := blk_cell HR1.out 1
    have hcR2 := blk_cell HR1.out 2
    have hcR3 := blk_cell HR1.out 3
    have hlR := blk_lt HR1.out
    simp only [List.getElem?_toArray, List.getElem?_cons_zero, List.getElem?_cons_succ] at hcR0 hcR1 hcR2 hcR3
    go_wp2_with fail
    refine (F1.out _).mono ?_
    rintro e w2 ⟨rfl, hb2⟩
    clear hcR0 hcR1 hcR2 hcR3 hlR
    have HR2 := Lib.hid ((hb2.block _ (by have := blk_lt HR1.out; exact this)).trans HR1.out)
    have HT2 := Lib.hid ((hb2.block _ (by have := blk_lt HT1.out; exact this)).trans HT1.out)
    have HB2 := Lib.hid ((HB1.out).trans (hb2.mono (by have := HB1.out.size; omega)))
    clear hb2
    rcases K2.out with ⟨hm, b, ha1, ha2, ha3, f1, _⟩ | ⟨hm, f1⟩
    · obtain ⟨j, hj1, hj2⟩ := idx_of n b ha2 (by omega)
      have hwa : IntKind.u64.wrap (b.size : Int) = b.size := by rw [IntKind.wrap_u64]; omega
      have hsum : (9223372036854775807 < b.size + more.size) = False := eq_false (by omega)
      have hj0 : (b.size : Int) ≠ 0 := by omega
      have F1 := Lib.hid f1
      clear f1
      have g1 := fun W => decTCut hm ha3 ha1 j hj2 W
      have G1 := Lib.hid g1
      clear g1
      have hcT0 := blk_cell HT2.out 0
      have hcT1 := blk_cell HT2.out 1
      have hlT := blk_lt HT2.out
      simp only [List.getElem?_toArray, List.getElem?_cons_zero, List.getElem?_cons_succ] at hcT0 hcT1
      go_wp2_with fail
      refine (F1.out _).mono ?_
      rintro e w3 ⟨rfl, hb3⟩
      clear hcT0 hcT1 hlT
      have HR3 := Lib.hid ((hb3.block _ (by have := blk_lt HR2.out; exact this)).trans HR2.out)
      have HT3 := Lib.hid ((hb3.block _ (by have := blk_lt HT2.out; exact this)).trans HT2.out)
      have HB3 := Lib.hid ((HB2.out).trans (hb3.mono (by have := HB2.out.size; omega)))
      clear hb3
      go_wp2_with fail
      refine (G1.out _).mono ?_
      rintro e w4 ⟨rfl, hb4⟩
      have HR4 := Lib.hid ((hb4.block _ (by have := blk_lt HR3.out; exact this)).trans HR3.out)
      have HT4 := Lib.hid ((hb4.block _ (by have := blk_lt HT3.out; exact this)).trans HT3.out)
      have HB4 := Lib.hid ((HB3.out).trans (hb4.mono (by have := HB3.out.size; omega)))
      clear hb4
      by_cases hmo2 : more.data.toList = []
      · have q1 := fun W => decTSame hm ha3 ha1 hmo2 W
        have Q1 := Lib.hid q1
        clear q1
        have e1 : more.toList = [] := by rw [Lib.toList_data]; exact hmo2
        go_wp2_with fail
        refine (Q1.out _).mono ?_
        rintro e w5 ⟨rfl, hb5⟩
        have HR5 := Lib.hid ((hb5.block _ (by have := blk_lt HR4.out; simp; omega)).trans (blk_alloc HR4.out (.cells #[.int .i64 0, .int .i64 0] 25)))
        have HT5 := Lib.hid ((hb5.block _ (by have := blk_lt HT4.out; simp; omega)).trans (blk_alloc HT4.out (.cells #[.int .i64 0, .int .i64 0] 25)))
        have HU5 := Lib.hid ((hb5.block (w4.heap.size) (by simp)).trans (heap_alloc_new w4 (.cells #[.int .i64 0, .int .i64 0] 25)))
        have HB5 := Lib.hid ((below_alloc (HB4.out) (.cells #[.int .i64 0, .int .i64 0] 25)).trans (hb5.mono (by have := HB4.out.size; simp; omega)))
        clear hb5
        go_wp2
        go_ret
        exact ⟨by first | rfl | (simp; done), below_alloc (HB5.out) (.cells #[.int .i64 live, .int .i64 eps] 25)⟩
      · have q1 := fun W => decTMore hm ha3 ha1 hmo hmo2 W
        have Q1 := Lib.hid q1
        clear q1
        have e1 : more.toList.isEmpty = false := by rw [Lib.toList_data]; exact List.isEmpty_eq_false_iff.2 hmo2
        have e2 : ¬ more.toList = [] := by rw [Lib.toList_data]; exact hmo2
        go_wp2_with fail
        refine (Q1.out _).mono ?_
        rintro e w5 ⟨rfl, hb5⟩
        have HR5 := Lib.hid ((hb5.block _ (by have := blk_lt HR4.out; simp; omega)).trans (blk_alloc HR4.out (.cells #[.int .i64 0, .int .i64 0] 25)))
        have HT5 := Lib.hid ((hb5.block _ (by have := blk_lt HT4.out; simp; omega)).trans (blk_alloc HT4.out (.cells #[.int .i64 0, .int .i64 0] 25)))
        have HU5 := Lib.hid ((hb5.block (w4.heap.size) (by simp)).trans (heap_alloc_new w4 (.cells #[.int .i64 0, .int .i64 0] 25)))
        have HB5 := Lib.hid ((below_alloc (HB4.out) (.cells #[.int .i64 0, .int .i64 0] 25)).trans (hb5.mono (by have := HB4.out.size; simp; omega)))
        clear hb5
        go_wp2
        go_ret
        exact ⟨by first | rfl | (simp; done), below_alloc (HB5.out) (.cells #[.int .i64 0, .int .i64 0] 25)⟩
    · clear hm
      have F1 := Lib.hid f1
      clear f1
      have hcT0 := blk_cell HT2.out 0
      have hcT1 := blk_cell HT2.out 1
      have hlT := blk_lt HT2.out
      simp only [List.getElem?_toArray, List.getElem?_cons_zero, List.getElem?_cons_succ] at hcT0 hcT1
      go_wp2_with fail
      refine (F1.out _).mono ?_
      rintro e w3 ⟨rfl, hb3⟩
      clear hcT0 hcT1 hlT
      have HR3 := Lib.hid ((hb3.block _ (by have := blk_lt HR2.out; exact this)).trans HR2.out)
      have HT3 := Lib.hid ((hb3.block _ (by have := blk_lt HT2.out; exact this)).trans HT2.out)
      have HB3 := Lib.hid ((HB2.out).trans (hb3.mono (by have := HB2.out.size; omega)))
      clear hb3
      go_wp2
      go_ret
      exact ⟨by first | rfl | (simp; done), HB3.out⟩
theorem RecordCut_walk (cs0 : Array Value) (x0 : ByteArray × Int × Int × Bool) (cs1 : Array Value) (x1 : Int × Int) (n : Int) (more : ByteArray) (w : World) (hK0 : (Kd.pair Kd.string (Kd.pair OP.I64 (Kd.pair OP.I64 Kd.bool))).K w x0 cs0.toList) (ok0 : OP.small x0.1 ∧ OP.wf64 x0.2.1 ∧ OP.wf64 x0.2.2.1 ∧ True) (hK1 : (Kd.pair OP.I64 OP.I64).K w x1 cs1.toList) (ok1 : OP.wf64 x1.1 ∧ OP.wf64 x1.2) (hn : (Lit.int .i64 n).wf = true) (hs : more.size ≤ 140737488351232) :
    Calls Try.prog 16 #[.agg cs0, .agg cs1, .int .i64 n, .string more] w fun e w' => e = .returned (.bool true) ∧ Below w.heap.size w w' := by
  rw [OP.rec_cells hK0, OP.ten_cells hK1]
  exact RecordCut_core _ _ _ _ _ _ n more w ok0.1 hn hs
end Go.Proofs.Ytobanhbjkomieaa.RP
