import Derived.Test.YtobanhbjkomieaaRG
namespace Go.Proofs.Ytobanhbjkomieaa.RP
open Go.RowKit Go.Proofs.Ytobanhbjkomieaa.PAll Go.Proofs.Ytobanhbjkomieaa.KP Go.Proofs.Ytobanhbjkomieaa.BP Go.Proofs.YtobanhbjkomieaaW.PrintWords Go.Proofs.YtobanhbjkomieaaW.PrintLast Go.Proofs.YtobanhbjkomieaaW.PrintMore
set_option linter.unusedSimpArgs false
set_option linter.unusedVariables false
/-! ### the reference's Decode -/
set_option maxHeartbeats 8000000 in
set_option maxRecDepth 100000 in
theorem refDecode_gen (s : ByteArray) (hs : s.size ≤ 140737488351232) (w : World) (t : List UInt8 × Nat × Int) (v u y : Nat × Nat × Int) (ht : t.1.length ≤ 24) (hv : v.1 ≤ 1099511627776) (hu : u.1 ≤ 1125899906842624) (hp : y.2.1 ≤ s.size)
    (c1 : ∀ W, IsS187 w W (w.heap.size + 1) s 0 0 → Below w.heap.size w W → Calls Try.prog 148 #[.pointer (some ⟨w.heap.size + 1, 0, none⟩), .int .i64 24] W fun r w' => r = .returned (.string ⟨t.1.toArray⟩) ∧ IsS187 w w' (w.heap.size + 1) s t.2.1 t.2.2 ∧ Below w.heap.size w w' ∧ KeepBut W w' (w.heap.size + 1) none)
    (c2 : ∀ W, IsS187 w W (w.heap.size + 1) s t.2.1 t.2.2 → Below w.heap.size w W → Calls Try.prog 149 #[.pointer (some ⟨w.heap.size + 1, 0, none⟩), .int .u64 1099511627776] W fun r w' => r = .returned (.int .u64 v.1) ∧ IsS187 w w' (w.heap.size + 1) s v.2.1 v.2.2 ∧ Below w.heap.size w w' ∧ KeepBut W w' (w.heap.size + 1) none)
    (c3 : ∀ W, IsS187 w W (w.heap.size + 1) s v.2.1 v.2.2 → Below w.heap.size w W → Calls Try.prog 149 #[.pointer (some ⟨w.heap.size + 1, 0, none⟩), .int .u64 1125899906842624] W fun r w' => r = .returned (.int .u64 u.1) ∧ IsS187 w w' (w.heap.size + 1) s u.2.1 u.2.2 ∧ Below w.heap.size w w' ∧ KeepBut W w' (w.heap.size + 1) none)
    (c4 : ∀ W, IsS187 w W (w.heap.size + 1) s u.2.1 u.2.2 → Below w.heap.size w W → Calls Try.prog 150 #[.pointer (some ⟨w.heap.size + 1, 0, none⟩)] W fun r w' => r = .returned (.int .u8 y.1) ∧ IsS187 w w' (w.heap.size + 1) s y.2.1 y.2.2 ∧ Below w.heap.size w w' ∧ KeepBut W w' (w.heap.size + 1) none)
    (r : Rc) (ec : Int)
    (hr : (r, ec) = if y.2.2 ≠ 0 then (noRc, y.2.2) else if y.2.1 < s.size ∨ 1 < y.1 ∨ mayRec ⟨t.1.toArray⟩ v.1 u.1 = false then (noRc, 4) else (⟨t.1, v.1, u.1, decide (y.1 = 1)⟩, 0)) :
    Calls Try.prog 76 #[.string s] w fun e w' => e = .returned (.tuple #[rcV r, .int .i64 ec]) ∧ Below w.heap.size w w' := by
  have C1 := Lib.hid c1
  have C2 := Lib.hid c2
  have C3 := Lib.hid c3
  have C4 := Lib.hid c4
  have HR := Lib.hid hr
  have hv2 : wrap64 (v.1 : Int) = v.1 := by unfold wrap64; omega
  have hu2 : wrap64 (u.1 : Int) = u.1 := by unfold wrap64; omega
  clear c1 c2 c3 c4 hr
  go_enter Try.func76, Try.ntmps76
  go_wp2_with fail
  refine (C1.out _ ?_ ?_).mono ?_
  · exact ⟨blk_alloc (heap_alloc2_new w _ _) _, by omega⟩
  · exact below_alloc (below_alloc (below_alloc (Below.refl _ _) _) _) _
  rintro e w1 ⟨rfl, hI1, hB1, hK1⟩
  have HX1 := Lib.hid ((hK1.2 (w.heap.size + 2) (by simp) (by omega) (by simp)).trans (heap_alloc_at _ _ (by simp)))
  have HR1 := Lib.hid ((hK1.2 w.heap.size (by simp; omega) (by omega) (by simp)).trans (blk_alloc (blk_alloc (heap_alloc_new w _) _) _))
  have ne1 : w.heap.size + 1 ≠ w.heap.size + 2 := by omega
  clear hK1
  generalize hX : w.heap.size + 2 = X at *
  generalize hG : w.heap.size + 1 = G at *
  generalize hRr : w.heap.size = R at *
  have hcx0 := blk_cell HX1.out 0
  have hfx0 := blk_frozen HX1.out 0
  simp at hcx0
  go_wp2_with fail
  refine (C2.out _ ?_ ?_).mono ?_
  · exact hI1.far ne1 _
  · exact hB1.setCell (p := ⟨X, 0, none⟩) (by show R ≤ X; omega) _
  rintro e w2 ⟨rfl, hI2, hB2, hK2⟩
  have HX2 := Lib.hid ((hK2.2 X (by have := blk_lt HX1.out; simpa using this) (by omega) (by simp)).trans (blk_put (cs' := #[.string ⟨t.1.toArray⟩, .int .i64 0, .int .i64 0, .bool false]) HX1.out 0 (.string ⟨t.1.toArray⟩) rfl))
  have HR2 := Lib.hid ((hK2.2 R (by have := blk_lt HR1.out; simpa using this) (by omega) (by simp)).trans (blk_far HR1.out (p := ⟨X, 0, none⟩) (by show R ≠ X; omega) _))
  clear hK2 HX1 HR1 hI1 hB1
  clear hcx0 hfx0
  have hcx0 := blk_cell HX2.out 0
  have hcx1 := blk_cell HX2.out 1
  have hfx0 := blk_frozen HX2.out 0
  have hfx1 := blk_frozen HX2.out 1
  simp at hcx0 hcx1
  go_wp2_with fail
  refine (C3.out _ ?_ ?_).mono ?_
  · exact hI2.far ne1 _
  · exact hB2.setCell (p := ⟨X, 1, none⟩) (by show R ≤ X; omega) _
  rintro e w3 ⟨rfl, hI3, hB3, hK3⟩
  have HX3 := Lib.hid ((hK3.2 X (by have := blk_lt HX2.out; simpa using this) (by omega) (by simp)).trans (blk_put (cs' := #[.string ⟨t.1.toArray⟩, .int .i64 v.1, .int .i64 0, .bool false]) HX2.out 1 (.int .i64 v.1) rfl))
  have HR3 := Lib.hid ((hK3.2 R (by have := blk_lt HR2.out; simpa using this) (by omega) (by simp)).trans (blk_far HR2.out (p := ⟨X, 1, none⟩) (by show R ≠ X; omega) _))
  clear hK3 HX2 HR2 hI2 hB2
  clear hcx0 hcx1 hfx0 hfx1
  have hcx0 := blk_cell HX3.out 0
  have hcx1 := blk_cell HX3.out 1
  have hcx2 := blk_cell HX3.out 2
  have hfx0 := blk_frozen HX3.out 0
  have hfx1 := blk_frozen HX3.out 1
  have hfx2 := blk_frozen HX3.out 2
  simp at hcx0 hcx1 hcx2
  go_wp2_with fail
  refine (C4.out _ ?_ ?_).mono ?_
  · exact hI3.far ne1 _
  · exact hB3.setCell (p := ⟨X, 2, none⟩) (by show R ≤ X; omega) _
  rintro e w4 ⟨rfl, hI4, hB4, hK4⟩
  have HX4 := Lib.hid ((hK4.2 X (by have := blk_lt HX3.out; simpa using this) (by omega) (by simp)).trans (blk_put (cs' := #[.string ⟨t.1.toArray⟩, .int .i64 v.1, .int .i64 u.1, .bool false]) HX3.out 2 (.int .i64 u.1) rfl))
  have HR4 := Lib.hid ((hK4.2 R (by have := blk_lt HR3.out; simpa using this) (by omega) (by simp)).trans (blk_far HR3.out (p := ⟨X, 2, none⟩) (by show R ≠ X; omega) _))
  have HG4 := Lib.hid hI4.1
  clear hK4 HX3 HR3 hI3 hB3 hI4
  clear hcx0 hcx1 hcx2 hfx0 hfx1 hfx2
  have hcx0 := blk_cell HX4.out 0
  have hcx1 := blk_cell HX4.out 1
  have hcx2 := blk_cell HX4.out 2
  have hcx3 := blk_cell HX4.out 3
  have hfx0 := blk_frozen HX4.out 0
  have hfx1 := blk_frozen HX4.out 1
  have hfx2 := blk_frozen HX4.out 2
  have hfx3 := blk_frozen HX4.out 3
  have hcr0 := blk_cell HR4.out 0
  have hcr1 := blk_cell HR4.out 1
  have hcr2 := blk_cell HR4.out 2
  have hcr3 := blk_cell HR4.out 3
  have hfr0 := blk_frozen HR4.out 0
  have hfr1 := blk_frozen HR4.out 1
  have hfr2 := blk_frozen HR4.out 2
  have hfr3 := blk_frozen HR4.out 3
  have hcg0 := blk_cell HG4.out 0
  have hcg1 := blk_cell HG4.out 1
  have hcg2 := blk_cell HG4.out 2
  simp at hcx0 hcx1 hcx2 hcx3 hcr0 hcr1 hcr2 hcr3 hcg0 hcg1 hcg2
  have ne2 : R ≠ X := by omega
  have ne3 : G ≠ R := by omega
  have he : ((y.1 : Int) == 1) = decide (y.1 = 1) := by rw [Bool.eq_iff_iff]; simp; omega
  obtain ⟨yb, yp, ye⟩ := y
  simp only at *
  by_cases h0 : ye = 0
  · subst h0
    by_cases h1 : 1 < yb
    · have k1 : ((1 : Int) < (yb : Int)) = True := eq_true (by omega)
      have k2 : decide ((1 : Int) < (yb : Int)) = true := decide_eq_true (by omega)
      have k3 : decide (1 < yb) = true := decide_eq_true h1
      go_wp2_with fail
      refine bodyPost_ret (results_cell_tmp rfl _ _ R 23 _ (0, 0) _ _ rfl rfl (blk_put4 (blk_far HR4.out (p := ⟨X, 3, none⟩) ne2 _)) Try.underlying23 rfl (by kernel_rfl)) rfl ?_
      have hr := HR.out
      rw [if_neg (by simp), if_pos (.inr (.inl h1))] at hr
      obtain ⟨rfl, rfl⟩ := Prod.mk.inj hr
      refine ⟨rfl, ?_⟩
      rw [hRr]
      iterate 4 refine Below.setCell ?_ (Nat.le_refl R) _
      exact hB4.setCell (p := ⟨X, 3, none⟩) (by show R ≤ X; omega) _
    · have k1 : ((1 : Int) < (yb : Int)) = False := eq_false (by omega)
      have k2 : decide ((1 : Int) < (yb : Int)) = false := decide_eq_false (by omega)
      have k3 : decide (1 < yb) = false := decide_eq_false h1
      by_cases h2 : yp < s.size
      · have j1 : ((yp : Int) < (s.size : Int)) = True := eq_true (by omega)
        have j2 : decide ((yp : Int) < (s.size : Int)) = true := decide_eq_true (by omega)
        have j3 : decide (yp < s.size) = true := decide_eq_true h2
        go_wp2_with fail
        refine bodyPost_ret (results_cell_tmp rfl _ _ R 23 _ (0, 0) _ _ rfl rfl (blk_put4 (blk_far HR4.out (p := ⟨X, 3, none⟩) ne2 _)) Try.underlying23 rfl (by kernel_rfl)) rfl ?_
        have hr := HR.out
        rw [if_neg (by simp), if_pos (.inl h2)] at hr
        obtain ⟨rfl, rfl⟩ := Prod.mk.inj hr
        refine ⟨rfl, ?_⟩
        rw [hRr]
        iterate 4 refine Below.setCell ?_ (Nat.le_refl R) _
        exact hB4.setCell (p := ⟨X, 3, none⟩) (by show R ≤ X; omega) _
      · have j1 : ((yp : Int) < (s.size : Int)) = False := eq_false (by omega)
        have j2 : decide ((yp : Int) < (s.size : Int)) = false := decide_eq_false (by omega)
        have j3 : decide (yp < s.size) = false := decide_eq_false h2
        have hm := fun W => refRecMay_any ⟨t.1.toArray⟩ (by rw [size_mk]; omega) v.1 u.1 (decide (yb = 1)) W
        have HM := Lib.hid hm
        clear hm
        go_wp2_with fail
        refine (HM.out _).mono ?_
        rintro e w5 ⟨rfl, hb5⟩
        have hB5 := (hB4.setCell (p := ⟨X, 3, none⟩) (by show R ≤ X; omega) (.bool (decide (yb = 1)))).trans (hb5.mono (by have := blk_lt HR4.out; simp; omega))
        have HX5 := Lib.hid ((hb5.block X (by have := blk_lt HX4.out; simpa using this)).trans (blk_put (cs' := #[.string ⟨t.1.toArray⟩, .int .i64 v.1, .int .i64 u.1, .bool (decide (yb = 1))]) HX4.out 3 (.bool (decide (yb = 1))) rfl))
        have HR5 := Lib.hid ((hb5.block R (by have := blk_lt HR4.out; simpa using this)).trans (blk_far HR4.out (p := ⟨X, 3, none⟩) ne2 _))
        clear hb5 HX4 HR4
        clear hcx0 hcx1 hcx2 hcx3 hfx0 hfx1 hfx2 hfx3
        clear hcr0 hcr1 hcr2 hcr3 hfr0 hfr1 hfr2 hfr3
        have hcx0 := blk_cell HX5.out 0
        have hcx1 := blk_cell HX5.out 1
        have hcx2 := blk_cell HX5.out 2
        have hcx3 := blk_cell HX5.out 3
        have hcr0 := blk_cell HR5.out 0
        have hcr1 := blk_cell HR5.out 1
        have hcr2 := blk_cell HR5.out 2
        have hcr3 := blk_cell HR5.out 3
        have hfr0 := blk_frozen HR5.out 0
        have hfr1 := blk_frozen HR5.out 1
        have hfr2 := blk_frozen HR5.out 2
        have hfr3 := blk_frozen HR5.out 3
        simp at hcx0 hcx1 hcx2 hcx3 hcr0 hcr1 hcr2 hcr3
        by_cases h3 : mayRec ⟨t.1.toArray⟩ v.1 u.1 = true
        · rw [h3]
          go_wp2_with fail
          refine bodyPost_ret (results_cell_tmp rfl _ _ R 23 _ (0, 0) _ _ rfl rfl (blk_put4 HR5.out) Try.underlying23 rfl (by kernel_rfl)) rfl ?_
          have hr := HR.out
          rw [if_neg (by simp), if_neg (by rw [h3]; simp; omega)] at hr
          obtain ⟨rfl, rfl⟩ := Prod.mk.inj hr
          refine ⟨rfl, ?_⟩
          rw [hRr]
          iterate 4 refine Below.setCell ?_ (Nat.le_refl R) _
          exact hB5
        · rw [Bool.not_eq_true] at h3
          rw [h3]
          go_wp2_with fail
          refine bodyPost_ret (results_cell_tmp rfl _ _ R 23 _ (0, 0) _ _ rfl rfl (blk_put4 HR5.out) Try.underlying23 rfl (by kernel_rfl)) rfl ?_
          have hr := HR.out
          rw [if_neg (by simp), if_pos (.inr (.inr h3))] at hr
          obtain ⟨rfl, rfl⟩ := Prod.mk.inj hr
          refine ⟨rfl, ?_⟩
          rw [hRr]
          iterate 4 refine Below.setCell ?_ (Nat.le_refl R) _
          exact hB5
  · have h1 : (ye == 0) = false := beq_eq_false_iff_ne.2 h0
    go_wp2_with fail
    go_region
    go_wp2_with fail
    refine bodyPost_ret (results_cell_tmp rfl _ _ R 23 _ (0, 0) _ _ rfl rfl (blk_put4 (blk_far HR4.out (p := ⟨X, 3, none⟩) ne2 _)) Try.underlying23 rfl (by kernel_rfl)) rfl ?_
    have hr := HR.out
    rw [if_pos h0] at hr
    obtain ⟨rfl, rfl⟩ := Prod.mk.inj hr
    refine ⟨rfl, ?_⟩
    rw [hRr]
    refine below_drew ?_
    iterate 4 refine Below.setCell ?_ (Nat.le_refl R) _
    exact hB4.setCell (p := ⟨X, 3, none⟩) (by show R ≤ X; omega) _
theorem refDecode_any (s : ByteArray) (hs : s.size ≤ 140737488351232) (w : World) :
    Calls Try.prog 76 #[.string s] w fun e w' => e = .returned (decV s.data.toList) ∧ Below w.heap.size w w' := by
  have hl : s.data.toList.length = s.size := data_length s
  have b1 := rdT_bd (s := s.data.toList) (p := 0) (by omega) 0 24
  have b2 := rdV_bd b1.1 (rdT s.data.toList 0 0 24).2.2 1099511627776
  have b3 := rdV_bd b2.1 (rdV s.data.toList (rdT s.data.toList 0 0 24).2.1 (rdT s.data.toList 0 0 24).2.2 1099511627776).2.2 1125899906842624
  have b4 := (rdB_bd b3.1 (rdV s.data.toList (rdV s.data.toList (rdT s.data.toList 0 0 24).2.1 (rdT s.data.toList 0 0 24).2.2 1099511627776).2.1 (rdV s.data.toList (rdT s.data.toList 0 0 24).2.1 (rdT s.data.toList 0 0 24).2.2 1099511627776).2.2 1125899906842624).2.2).1
  have hq := decRc_eq s.data.toList
  rw [hl] at hq
  have c1 := b1.1
  have c2 := b2.1
  have c3 := b3.1
  rw [hl] at c1 c2 c3 b4
  exact refDecode_gen s hs w (rdT s.data.toList 0 0 24) (rdV s.data.toList (rdT s.data.toList 0 0 24).2.1 (rdT s.data.toList 0 0 24).2.2 1099511627776)
    (rdV s.data.toList (rdV s.data.toList (rdT s.data.toList 0 0 24).2.1 (rdT s.data.toList 0 0 24).2.2 1099511627776).2.1 (rdV s.data.toList (rdT s.data.toList 0 0 24).2.1 (rdT s.data.toList 0 0 24).2.2 1099511627776).2.2 1125899906842624)
    (rdB s.data.toList _ _) b1.2 b2.2 b3.2 b4
    (fun W h k => refRdText_any s hs _ 0 (by omega) 0 w W 24 (by omega) h k)
    (fun W h k => refRdVarint_any s hs _ _ c1 _ w W 1099511627776 h k)
    (fun W h k => refRdVarint_any s hs _ _ c2 _ w W 1125899906842624 h k)
    (fun W h k => refRdByte_any s hs _ _ c3 _ w W h k)
    _ _ hq
end Go.Proofs.Ytobanhbjkomieaa.RP
