import Derived.Test.YtobanhbjkomieaaRF
namespace Go.Proofs.Ytobanhbjkomieaa.RP
open Go.RowKit Go.Proofs.Ytobanhbjkomieaa.PAll Go.Proofs.Ytobanhbjkomieaa.KP Go.Proofs.Ytobanhbjkomieaa.BP Go.Proofs.YtobanhbjkomieaaW.PrintWords Go.Proofs.YtobanhbjkomieaaW.PrintLast Go.Proofs.YtobanhbjkomieaaW.PrintMore
open Go.Proofs.Ytobanhbjkomieaa.PRd (IsS225)
set_option linter.unusedSimpArgs false
set_option linter.unusedVariables false
/-! ### decode: a tenant's -/
set_option maxHeartbeats 1000000 in
set_option maxRecDepth 100000 in
theorem decT2_gen (s : ByteArray) (g : Nat) (w0 w : World) (v u : Nat × Nat × Int) (hv : v.1 ≤ 1048576) (hu : u.1 ≤ 1099511627776)
    (c1 : ∀ w, IsS225 w0 w g s 0 0 → Below w0.heap.size w0 w → Calls Try.prog 146 #[.pointer (some ⟨g, 0, none⟩), .int .u64 1048576] w fun r w' => r = .returned (.int .u64 v.1) ∧ IsS225 w0 w' g s v.2.1 v.2.2 ∧ Below w0.heap.size w0 w' ∧ KeepBut w w' g none)
    (c2 : ∀ w, IsS225 w0 w g s v.2.1 v.2.2 → Below w0.heap.size w0 w → Calls Try.prog 146 #[.pointer (some ⟨g, 0, none⟩), .int .u64 1099511627776] w fun r w' => r = .returned (.int .u64 u.1) ∧ IsS225 w0 w' g s u.2.1 u.2.2 ∧ Below w0.heap.size w0 w' ∧ KeepBut w w' g none)
    (hI : IsS225 w0 w g s 0 0) (hB : Below w0.heap.size w0 w) :
    Calls Try.prog 152 #[.pointer (some ⟨g, 0, none⟩)] w fun r w' =>
      r = .returned (.agg #[.int .i64 v.1, .int .i64 u.1]) ∧ IsS225 w0 w' g s u.2.1 u.2.2 ∧ Below w0.heap.size w0 w' ∧ Kept w w' (fun k => k = g) := by
  have C1 := Lib.hid c1
  have C2 := Lib.hid c2
  have hv2 : wrap64 (v.1 : Int) = v.1 := by unfold wrap64; omega
  have hu2 : wrap64 (u.1 : Int) = u.1 := by unfold wrap64; omega
  clear c1 c2
  have hgw := PRd.IsS225.lt hI
  have zw := hB.size
  go_enter Try.func152, Try.ntmps152
  go_wp2_with fail
  refine (C1.out _ (hI.alloc _) (below_alloc hB _)).mono ?_
  rintro e w1 ⟨rfl, hI1, hB1, hK1⟩
  have P1 := Lib.hid (((Kept.refl w (fun k => k = g)).alloc _).of_keep hK1 (.inl rfl))
  have HR1 := Lib.hid ((hK1.2 w.heap.size (by simp) (by omega) (by simp)).trans (heap_alloc_new w _))
  clear hK1
  go_wp2_with fail
  refine (C2.out _ hI1 hB1).mono ?_
  rintro e w2 ⟨rfl, hI2, hB2, hK2⟩
  have P2 := Lib.hid (P1.out.of_keep hK2 (.inl rfl))
  have HR2 := Lib.hid ((hK2.2 w.heap.size (blk_lt HR1.out) (by omega) (by simp)).trans HR1.out)
  clear hK2 HR1 hI1 hB1
  have hcr0 := blk_cell HR2.out 0
  have hcr1 := blk_cell HR2.out 1
  have hfr0 := blk_frozen HR2.out 0
  have hfr1 := blk_frozen HR2.out 1
  simp at hcr0 hcr1
  generalize hRr : w.heap.size = R at *
  go_wp2_with fail
  refine bodyPost_ret (results_cell_row rfl _ _ R 25 _ (0, 0) _ rfl (blk_put2 HR2.out) Try.underlying25 rfl (by kernel_rfl)) rfl ?_
  refine ⟨rfl, ?_, ?_, ?_⟩
  · have k1 : g ≠ R := by omega
    iterate 2 refine PRd.IsS225.far ?_ k1 _
    exact hI2
  · iterate 2 refine below_set ?_ zw
    exact hB2
  · have q : w.heap.size ≤ R := Nat.le_of_eq hRr
    iterate 2 refine Kept.setCell ?_ (.inr q) _
    exact P2.out
theorem decT2_any (s : ByteArray) (hs : s.size ≤ 140737488351232) (g : Nat) (w0 w : World) (hI : IsS225 w0 w g s 0 0) (hB : Below w0.heap.size w0 w) :
    Calls Try.prog 152 #[.pointer (some ⟨g, 0, none⟩)] w fun r w' =>
      r = .returned (.agg #[.int .i64 (tenR s.data.toList 0 0).1.1, .int .i64 (tenR s.data.toList 0 0).1.2]) ∧
      IsS225 w0 w' g s (tenR s.data.toList 0 0).2.1 (tenR s.data.toList 0 0).2.2 ∧ Below w0.heap.size w0 w' ∧ Kept w w' (fun k => k = g) := by
  have hl : s.data.toList.length = s.size := data_length s
  have b1 := rdV_bd (s := s.data.toList) (p := 0) (by omega) 0 1048576
  have b2 := rdV_bd b1.1 (rdV s.data.toList 0 0 1048576).2.2 1099511627776
  have c1 := b1.1
  rw [hl] at c1
  exact decT2_gen s g w0 w (rdV s.data.toList 0 0 1048576) (rdV s.data.toList (rdV s.data.toList 0 0 1048576).2.1 (rdV s.data.toList 0 0 1048576).2.2 1099511627776) b1.2 b2.2
    (fun W h k => rdVarint_any s hs g 0 (by omega) 0 w0 W 1048576 h k)
    (fun W h k => rdVarint_any s hs g _ c1 _ w0 W 1099511627776 h k) hI hB
theorem tenR_bd {s : List UInt8} : (tenR s 0 0).2.1 ≤ s.length := by
  have b1 := rdV_bd (s := s) (p := 0) (by omega) 0 1048576
  exact (rdV_bd b1.1 (rdV s 0 0 1048576).2.2 1099511627776).1
set_option maxHeartbeats 4000000 in
set_option maxRecDepth 100000 in
theorem decodeTenG_gen (s : ByteArray) (hs : s.size ≤ 140737488351232) (p : Nat) (err : Int) (live ep : Nat) (w0 w : World) (hp : p ≤ s.size)
    (c2 : ∀ g W, IsS225 w0 W g s 0 0 → Below w0.heap.size w0 W →
      Calls Try.prog 152 #[.pointer (some ⟨g, 0, none⟩)] W fun r w' =>
        r = .returned (.agg #[.int .i64 live, .int .i64 ep]) ∧ IsS225 w0 w' g s p err ∧ Below w0.heap.size w0 w' ∧ Kept W w' (fun k => k = g))
    (hB : Below w0.heap.size w0 w) (r : Tn) (ec : Int)
    (hr : (r, ec) = if err ≠ 0 then (noTn, err) else if p < s.size ∨ mayTen live ep = false then (noTn, 4) else (⟨live, ep⟩, 0)) :
    Calls Try.prog 151 #[.string s, .func (.func 87) #[] #[], .func (.func 152) #[] #[]] w fun e w' =>
      e = .returned (.tuple #[tnV r, .int .i64 ec]) ∧ Below w0.heap.size w0 w' ∧ Kept w w' (fun _ => False) := by
  have C2 := Lib.hid c2
  have HR := Lib.hid hr
  clear c2 hr
  have zw := hB.size
  go_enter Try.func151, Try.ntmps151
  go_wp2_with fail
  refine (new_any _ _).mono ?_
  rintro e w1 ⟨rfl, rfl⟩
  go_wp2_with fail
  refine (C2.out _ _ ?_ ?_).mono ?_
  · exact ⟨heap_alloc_at _ _ (by simp), by have := hB.size; omega⟩
  · exact below_alloc (below_alloc (below_alloc hB _) _) _
  rintro e w2 ⟨rfl, hI2, hB2, hK2⟩
  have hR2 : w2.heap[w.heap.size]? = some (.cells #[.int .i64 0, .int .i64 0] 25 (0, 0)) := blk_kept (blk_alloc (blk_alloc (heap_alloc_new w _) _) _) hK2 (by show ¬ (w.heap.size = _); omega)
  have hZ2 : w2.heap[w.heap.size + 1]? = some (.cells #[.int .i64 0, .int .i64 0] 25 (0, 0)) := blk_kept (blk_alloc (heap_alloc2_new w _ _) _) hK2 (by show ¬ (w.heap.size + 1 = _); omega)
  have P2 := Lib.hid (((((Kept.refl w (fun _ => False)).alloc _).alloc _).alloc _).then_ hK2 (fun k hk => .inr (by subst hk; omega)))
  have HR2 := Lib.hid hR2
  have HZ2 := Lib.hid hZ2
  clear hR2 hZ2 hK2
  go_wp2_with fail
  refine (rdErr_any s _ p err w0 _ (hI2.alloc _) (below_alloc hB2 _)).mono ?_
  rintro e w3 ⟨rfl, hI3, hB3, hK3⟩
  have z2 := hI2.lt
  have hX3 := (hK3.2 w2.heap.size (by simp) (by have := hI2.lt; omega) (by simp)).trans (heap_alloc_new w2 _)
  have hR3 := (hK3.2 w.heap.size (by have := blk_lt HR2.out; simp; omega) (by omega) (by simp)).trans (blk_alloc HR2.out _)
  have hZ3 := (hK3.2 (w.heap.size + 1) (by have := blk_lt HZ2.out; simp; omega) (by omega) (by simp)).trans (blk_alloc HZ2.out _)
  have P3 := Lib.hid ((P2.out.alloc _).of_keep hK3 (.inr (by omega)))
  have HX3 := Lib.hid hX3
  have HR3 := Lib.hid hR3
  have HZ3 := Lib.hid hZ3
  clear hX3 hR3 hZ3 hK3 hI2 hB2 HR2 HZ2
  generalize hX : w2.heap.size = X at *
  generalize hRr : w.heap.size = R at *
  by_cases he : err = 0
  · subst he
    go_wp2_with fail
    refine (rdLeft_any s hs _ p hp 0 w0 _ hI3 hB3).mono ?_
    rintro e w4 ⟨rfl, hI4, hB4, hK4⟩
    have HX4 := Lib.hid ((hK4.2 X (blk_lt HX3.out) (by omega) (by simp)).trans HX3.out)
    have HR4 := Lib.hid ((hK4.2 R (blk_lt HR3.out) (by omega) (by simp)).trans HR3.out)
    have HZ4 := Lib.hid ((hK4.2 (R + 1) (blk_lt HZ3.out) (by omega) (by simp)).trans HZ3.out)
    have P4 := Lib.hid (P3.out.of_keep hK4 (.inr (by omega)))
    clear hK4 HX3 HR3 HZ3 hB3
    by_cases hlt : p < s.size
    · have hg1 : ((0 : Int) < ((s.size - p : Nat) : Int)) = True := eq_true (by omega)
      have hg2 : decide ((0 : Int) < ((s.size - p : Nat) : Int)) = true := decide_eq_true (by omega)
      have hg3 : decide (0 < s.size - p) = true := decide_eq_true (by omega)
      have hcz0 := blk_cell HZ4.out 0
      have hcz1 := blk_cell HZ4.out 1
      have hcr0 := blk_cell HR4.out 0
      have hcr1 := blk_cell HR4.out 1
      have hfr0 := blk_frozen HR4.out 0
      have hfr1 := blk_frozen HR4.out 1
      simp at hcz0 hcz1 hcr0 hcr1
      go_wp2_with fail
      refine bodyPost_ret (results_cell_tmp rfl _ _ R 25 _ (0, 0) _ _ rfl rfl (blk_put2 HR4.out) Try.underlying25 rfl (by kernel_rfl)) rfl ?_
      have hr := HR.out
      rw [if_neg (by simp), if_pos (.inl hlt)] at hr
      obtain ⟨rfl, rfl⟩ := Prod.mk.inj hr
      refine ⟨rfl, ?_, ?_⟩
      · iterate 2 refine below_set ?_ zw
        exact hB4
      · have q : w.heap.size ≤ R := Nat.le_of_eq hRr
        iterate 2 refine Kept.setCell ?_ (.inr q) _
        exact P4.out
    · have hg1 : ((0 : Int) < ((s.size - p : Nat) : Int)) = False := eq_false (by omega)
      have hg2 : decide ((0 : Int) < ((s.size - p : Nat) : Int)) = false := decide_eq_false (by omega)
      have hg3 : decide (0 < s.size - p) = false := decide_eq_false (by omega)
      have hcx0 := blk_cell HX4.out 0
      have hcx1 := blk_cell HX4.out 1
      simp at hcx0 hcx1
      go_wp2_with fail
      refine (tenMay_any live ep _).mono ?_
      rintro e w5 ⟨rfl, hb5⟩
      have hB5 := below_next0 hB4 hb5
      have HR5 := Lib.hid ((hb5.block R (blk_lt HR4.out)).trans HR4.out)
      have HZ5 := Lib.hid ((hb5.block (R + 1) (blk_lt HZ4.out)).trans HZ4.out)
      have HX5 := Lib.hid ((hb5.block X (blk_lt HX4.out)).trans HX4.out)
      have P5 := Lib.hid (P4.out.below hb5)
      clear hb5 HX4 HR4 HZ4 hcx0 hcx1
      by_cases hm : mayTen live ep = true
      · rw [hm]
        have hcx0 := blk_cell HX5.out 0
        have hcx1 := blk_cell HX5.out 1
        have hcr0 := blk_cell HR5.out 0
        have hcr1 := blk_cell HR5.out 1
        have hfr0 := blk_frozen HR5.out 0
        have hfr1 := blk_frozen HR5.out 1
        simp at hcx0 hcx1 hcr0 hcr1
        go_wp2_with fail
        refine bodyPost_ret (results_cell_tmp rfl _ _ R 25 _ (0, 0) _ _ rfl rfl (blk_put2 HR5.out) Try.underlying25 rfl (by kernel_rfl)) rfl ?_
        have hr := HR.out
        rw [if_neg (by simp), if_neg (by rw [hm]; simp; omega)] at hr
        obtain ⟨rfl, rfl⟩ := Prod.mk.inj hr
        refine ⟨rfl, ?_, ?_⟩
        · iterate 2 refine below_set ?_ zw
          exact hB5
        · have q : w.heap.size ≤ R := Nat.le_of_eq hRr
          iterate 2 refine Kept.setCell ?_ (.inr q) _
          exact P5.out
      · rw [Bool.not_eq_true] at hm
        rw [hm]
        have hcz0 := blk_cell HZ5.out 0
        have hcz1 := blk_cell HZ5.out 1
        have hcr0 := blk_cell HR5.out 0
        have hcr1 := blk_cell HR5.out 1
        have hfr0 := blk_frozen HR5.out 0
        have hfr1 := blk_frozen HR5.out 1
        simp at hcz0 hcz1 hcr0 hcr1
        go_wp2_with fail
        refine bodyPost_ret (results_cell_tmp rfl _ _ R 25 _ (0, 0) _ _ rfl rfl (blk_put2 HR5.out) Try.underlying25 rfl (by kernel_rfl)) rfl ?_
        have hr := HR.out
        rw [if_neg (by simp), if_pos (.inr hm)] at hr
        obtain ⟨rfl, rfl⟩ := Prod.mk.inj hr
        refine ⟨rfl, ?_, ?_⟩
        · iterate 2 refine below_set ?_ zw
          exact hB5
        · have q : w.heap.size ≤ R := Nat.le_of_eq hRr
          iterate 2 refine Kept.setCell ?_ (.inr q) _
          exact P5.out
  · have he1 : (err == 0) = false := beq_eq_false_iff_ne.2 he
    have hcz0 := blk_cell HZ3.out 0
    have hcz1 := blk_cell HZ3.out 1
    have hcr0 := blk_cell HR3.out 0
    have hcr1 := blk_cell HR3.out 1
    have hfr0 := blk_frozen HR3.out 0
    have hfr1 := blk_frozen HR3.out 1
    simp at hcz0 hcz1 hcr0 hcr1
    go_wp2_with fail
    refine bodyPost_ret (results_cell_tmp rfl _ _ R 25 _ (0, 0) _ _ rfl rfl (blk_put2 HR3.out) Try.underlying25 rfl (by kernel_rfl)) rfl ?_
    have hr := HR.out
    rw [if_pos he] at hr
    obtain ⟨rfl, rfl⟩ := Prod.mk.inj hr
    refine ⟨rfl, ?_, ?_⟩
    · iterate 2 refine below_set ?_ zw
      exact hB3
    · have q : w.heap.size ≤ R := Nat.le_of_eq hRr
      iterate 2 refine Kept.setCell ?_ (.inr q) _
      exact P3.out
theorem decTn_eq (s : List UInt8) : ((decTn s).1, (decTn s).2) = if (tenR s 0 0).2.2 ≠ 0 then (noTn, (tenR s 0 0).2.2) else if (tenR s 0 0).2.1 < s.length ∨ mayTen (tenR s 0 0).1.1 (tenR s 0 0).1.2 = false then (noTn, 4)
    else (⟨(tenR s 0 0).1.1, (tenR s 0 0).1.2⟩, 0) := rfl
set_option maxHeartbeats 2000000 in
set_option maxRecDepth 100000 in
theorem decodeTen_any (s : ByteArray) (hs : s.size ≤ 140737488351232) (w : World) :
    Calls Try.prog 77 #[.string s] w fun e w' => e = .returned (decTV s.data.toList) ∧ Below w.heap.size w w' := by
  have hl : s.data.toList.length = s.size := data_length s
  have hp := tenR_bd (s := s.data.toList)
  rw [hl] at hp
  have hq := decTn_eq s.data.toList
  rw [hl] at hq
  have hc := fun (W : World) (hB : Below w.heap.size w W) =>
    decodeTenG_gen s hs (tenR s.data.toList 0 0).2.1 (tenR s.data.toList 0 0).2.2 (tenR s.data.toList 0 0).1.1 (tenR s.data.toList 0 0).1.2 w W hp
      (fun g W2 hI hB2 => decT2_any s hs g w W2 hI hB2) hB _ _ hq
  have HC := Lib.hid hc
  unfold decTV
  generalize (decTn s.data.toList).1 = r at *
  generalize (decTn s.data.toList).2 = ec at *
  clear hc hq hp hl
  unfold tnV at *
  go_enter Try.func77, Try.ntmps77
  go_wp2_with fail
  refine (HC.out _ (below_alloc (Below.refl _ _) _)).mono ?_
  rintro e w1 ⟨rfl, hb1, hk1⟩
  have HR1 := Lib.hid (blk_kept (heap_alloc_new w _) hk1 (fun h => h))
  clear hk1
  have hcr0 := blk_cell HR1.out 0
  have hcr1 := blk_cell HR1.out 1
  have hfr0 := blk_frozen HR1.out 0
  have hfr1 := blk_frozen HR1.out 1
  simp at hcr0 hcr1
  go_wp2_with fail
  refine bodyPost_ret (results_cell_tmp rfl _ _ w.heap.size 25 _ (0, 0) _ _ rfl rfl (blk_put2 HR1.out) Try.underlying25 rfl (by kernel_rfl)) rfl ?_
  refine ⟨rfl, ?_⟩
  iterate 2 refine below_set ?_ (Nat.le_refl _)
  exact hb1
end Go.Proofs.Ytobanhbjkomieaa.RP
