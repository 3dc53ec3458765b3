import Derived.Test.YtobanhbjkomieaaRH
namespace Go.Proofs.Ytobanhbjkomieaa.RP
open Go.RowKit Go.Proofs.Ytobanhbjkomieaa.PAll Go.Proofs.Ytobanhbjkomieaa.KP Go.Proofs.Ytobanhbjkomieaa.BP Go.Proofs.YtobanhbjkomieaaW.PrintWords Go.Proofs.YtobanhbjkomieaaW.PrintLast Go.Proofs.YtobanhbjkomieaaW.PrintMore
set_option linter.unusedSimpArgs false
set_option linter.unusedVariables false
/-! ### the reference's DecodeTenant -/
set_option maxHeartbeats 8000000 in
set_option maxRecDepth 100000 in
theorem refDecodeTen_gen (s : ByteArray) (hs : s.size ≤ 140737488351232) (w : World) (v u : Nat × Nat × Int) (hv : v.1 ≤ 1048576) (hu : u.1 ≤ 1099511627776) (hp : u.2.1 ≤ s.size)
    (c1 : ∀ W, IsS187 w W (w.heap.size + 1) s 0 0 → Below w.heap.size w W → Calls Try.prog 149 #[.pointer (some ⟨w.heap.size + 1, 0, none⟩), .int .u64 1048576] W fun r w' => r = .returned (.int .u64 v.1) ∧ IsS187 w w' (w.heap.size + 1) s v.2.1 v.2.2 ∧ Below w.heap.size w w' ∧ KeepBut W w' (w.heap.size + 1) none)
    (c2 : ∀ W, IsS187 w W (w.heap.size + 1) s v.2.1 v.2.2 → Below w.heap.size w W → Calls Try.prog 149 #[.pointer (some ⟨w.heap.size + 1, 0, none⟩), .int .u64 1099511627776] W fun r w' => r = .returned (.int .u64 u.1) ∧ IsS187 w w' (w.heap.size + 1) s u.2.1 u.2.2 ∧ Below w.heap.size w w' ∧ KeepBut W w' (w.heap.size + 1) none)
    (r : Tn) (ec : Int)
    (hr : (r, ec) = if u.2.2 ≠ 0 then (noTn, u.2.2) else if u.2.1 < s.size ∨ mayTen v.1 u.1 = false then (noTn, 4) else (⟨v.1, u.1⟩, 0)) :
    Calls Try.prog 78 #[.string s] w fun e w' => e = .returned (.tuple #[tnV r, .int .i64 ec]) ∧ Below w.heap.size w w' := by
  have C1 := Lib.hid c1
  have C2 := Lib.hid c2
  have HR := Lib.hid hr
  have hv2 : wrap64 (v.1 : Int) = v.1 := by unfold wrap64; omega
  have hu2 : wrap64 (u.1 : Int) = u.1 := by unfold wrap64; omega
  clear c1 c2 hr
  go_enter Try.func78, Try.ntmps78
  go_wp2_with fail
  refine (C1.out _ ?_ ?_).mono ?_
  · exact ⟨blk_alloc (heap_alloc2_new w _ _) _, by omega⟩
  · exact below_alloc (below_alloc (below_alloc (Below.refl _ _) _) _) _
  rintro e w1 ⟨rfl, hI1, hB1, hK1⟩
  have HX1 := Lib.hid ((hK1.2 (w.heap.size + 2) (by simp) (by omega) (by simp)).trans (heap_alloc_at _ _ (by simp)))
  have HR1 := Lib.hid ((hK1.2 w.heap.size (by simp; omega) (by omega) (by simp)).trans (blk_alloc (blk_alloc (heap_alloc_new w _) _) _))
  have ne1 : w.heap.size + 1 ≠ w.heap.size + 2 := by omega
  clear hK1
  generalize hX : w.heap.size + 2 = X at *
  generalize hG : w.heap.size + 1 = G at *
  generalize hRr : w.heap.size = R at *
  have hcx0 := blk_cell HX1.out 0
  have hfx0 := blk_frozen HX1.out 0
  simp at hcx0
  go_wp2_with fail
  refine (C2.out _ ?_ ?_).mono ?_
  · exact hI1.far ne1 _
  · exact hB1.setCell (p := ⟨X, 0, none⟩) (by show R ≤ X; omega) _
  rintro e w2 ⟨rfl, hI2, hB2, hK2⟩
  have HX2 := Lib.hid ((hK2.2 X (by have := blk_lt HX1.out; simpa using this) (by omega) (by simp)).trans (blk_put (cs' := #[.int .i64 v.1, .int .i64 0]) HX1.out 0 (.int .i64 v.1) rfl))
  have HR2 := Lib.hid ((hK2.2 R (by have := blk_lt HR1.out; simpa using this) (by omega) (by simp)).trans (blk_far HR1.out (p := ⟨X, 0, none⟩) (by show R ≠ X; omega) _))
  have HG2 := Lib.hid hI2.1
  clear hK2 HX1 HR1 hI1 hB1 hI2
  clear hcx0 hfx0
  have hcx0 := blk_cell HX2.out 0
  have hcx1 := blk_cell HX2.out 1
  have hfx0 := blk_frozen HX2.out 0
  have hfx1 := blk_frozen HX2.out 1
  have hcr0 := blk_cell HR2.out 0
  have hcr1 := blk_cell HR2.out 1
  have hfr0 := blk_frozen HR2.out 0
  have hfr1 := blk_frozen HR2.out 1
  have hcg0 := blk_cell HG2.out 0
  have hcg1 := blk_cell HG2.out 1
  have hcg2 := blk_cell HG2.out 2
  simp at hcx0 hcx1 hcr0 hcr1 hcg0 hcg1 hcg2
  have ne2 : R ≠ X := by omega
  have ne3 : G ≠ R := by omega
  obtain ⟨ub, up, ue⟩ := u
  simp only at *
  by_cases h0 : ue = 0
  · subst h0
    by_cases h2 : up < s.size
    · have j1 : ((up : Int) < (s.size : Int)) = True := eq_true (by omega)
      have j2 : decide ((up : Int) < (s.size : Int)) = true := decide_eq_true (by omega)
      have j3 : decide (up < s.size) = true := decide_eq_true h2
      go_wp2_with fail
      refine bodyPost_ret (results_cell_tmp rfl _ _ R 25 _ (0, 0) _ _ rfl rfl (blk_put2 (blk_far HR2.out (p := ⟨X, 1, none⟩) ne2 _)) Try.underlying25 rfl (by kernel_rfl)) rfl ?_
      have hr := HR.out
      rw [if_neg (by simp), if_pos (.inl h2)] at hr
      obtain ⟨rfl, rfl⟩ := Prod.mk.inj hr
      refine ⟨rfl, ?_⟩
      rw [hRr]
      iterate 2 refine Below.setCell ?_ (Nat.le_refl R) _
      exact hB2.setCell (p := ⟨X, 1, none⟩) (by show R ≤ X; omega) _
    · have j1 : ((up : Int) < (s.size : Int)) = False := eq_false (by omega)
      have j2 : decide ((up : Int) < (s.size : Int)) = false := decide_eq_false (by omega)
      have j3 : decide (up < s.size) = false := decide_eq_false h2
      have hm := fun W => refTenMay_any v.1 ub W
      have HM := Lib.hid hm
      clear hm
      go_wp2_with fail
      refine (HM.out _).mono ?_
      rintro e w5 ⟨rfl, hb5⟩
      have hB5 := (hB2.setCell (p := ⟨X, 1, none⟩) (by show R ≤ X; omega) (.int .i64 ub)).trans (hb5.mono (by have := blk_lt HR2.out; simp; omega))
      have HX5 := Lib.hid ((hb5.block X (by have := blk_lt HX2.out; simpa using this)).trans (blk_put (cs' := #[.int .i64 v.1, .int .i64 ub]) HX2.out 1 (.int .i64 ub) rfl))
      have HR5 := Lib.hid ((hb5.block R (by have := blk_lt HR2.out; simpa using this)).trans (blk_far HR2.out (p := ⟨X, 1, none⟩) ne2 _))
      clear hb5 HX2 HR2
      clear hcx0 hcx1 hfx0 hfx1
      clear hcr0 hcr1 hfr0 hfr1
      have hcx0 := blk_cell HX5.out 0
      have hcx1 := blk_cell HX5.out 1
      have hcr0 := blk_cell HR5.out 0
      have hcr1 := blk_cell HR5.out 1
      have hfr0 := blk_frozen HR5.out 0
      have hfr1 := blk_frozen HR5.out 1
      simp at hcx0 hcx1 hcr0 hcr1
      by_cases h3 : mayTen v.1 ub = true
      · rw [h3]
        go_wp2_with fail
        refine bodyPost_ret (results_cell_tmp rfl _ _ R 25 _ (0, 0) _ _ rfl rfl (blk_put2 HR5.out) Try.underlying25 rfl (by kernel_rfl)) rfl ?_
        have hr := HR.out
        rw [if_neg (by simp), if_neg (by rw [h3]; simp; omega)] at hr
        obtain ⟨rfl, rfl⟩ := Prod.mk.inj hr
        refine ⟨rfl, ?_⟩
        rw [hRr]
        iterate 2 refine Below.setCell ?_ (Nat.le_refl R) _
        exact hB5
      · rw [Bool.not_eq_true] at h3
        rw [h3]
        go_wp2_with fail
        refine bodyPost_ret (results_cell_tmp rfl _ _ R 25 _ (0, 0) _ _ rfl rfl (blk_put2 HR5.out) Try.underlying25 rfl (by kernel_rfl)) rfl ?_
        have hr := HR.out
        rw [if_neg (by simp), if_pos (.inr h3)] at hr
        obtain ⟨rfl, rfl⟩ := Prod.mk.inj hr
        refine ⟨rfl, ?_⟩
        rw [hRr]
        iterate 2 refine Below.setCell ?_ (Nat.le_refl R) _
        exact hB5
  · have h1 : (ue == 0) = false := beq_eq_false_iff_ne.2 h0
    go_wp2_with fail
    go_region
    go_wp2_with fail
    refine bodyPost_ret (results_cell_tmp rfl _ _ R 25 _ (0, 0) _ _ rfl rfl (blk_put2 (blk_far HR2.out (p := ⟨X, 1, none⟩) ne2 _)) Try.underlying25 rfl (by kernel_rfl)) rfl ?_
    have hr := HR.out
    rw [if_pos h0] at hr
    obtain ⟨rfl, rfl⟩ := Prod.mk.inj hr
    refine ⟨rfl, ?_⟩
    rw [hRr]
    refine below_drew ?_
    iterate 2 refine Below.setCell ?_ (Nat.le_refl R) _
    exact hB2.setCell (p := ⟨X, 1, none⟩) (by show R ≤ X; omega) _
theorem refDecodeTen_any (s : ByteArray) (hs : s.size ≤ 140737488351232) (w : World) :
    Calls Try.prog 78 #[.string s] w fun e w' => e = .returned (decTV s.data.toList) ∧ Below w.heap.size w w' := by
  have hl : s.data.toList.length = s.size := data_length s
  have b1 := rdV_bd (s := s.data.toList) (p := 0) (by omega) 0 1048576
  have b2 := rdV_bd b1.1 (rdV s.data.toList 0 0 1048576).2.2 1099511627776
  have hq := decTn_eq s.data.toList
  rw [hl] at hq
  have c1 := b1.1
  have c2 := b2.1
  rw [hl] at c1 c2
  exact refDecodeTen_gen s hs w (rdV s.data.toList 0 0 1048576) (rdV s.data.toList (rdV s.data.toList 0 0 1048576).2.1 (rdV s.data.toList 0 0 1048576).2.2 1099511627776) b1.2 b2.2 c2
    (fun W h k => refRdVarint_any s hs _ 0 (by omega) 0 w W 1048576 h k)
    (fun W h k => refRdVarint_any s hs _ _ c1 _ w W 1099511627776 h k)
    _ _ hq
end Go.Proofs.Ytobanhbjkomieaa.RP
