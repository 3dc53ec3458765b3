import Derived.Test.YtobanhbjkomieaaRI
namespace Go.Proofs.Ytobanhbjkomieaa.RP
open Go.RowKit Go.Proofs.Ytobanhbjkomieaa.PAll Go.Proofs.Ytobanhbjkomieaa.KP Go.Proofs.Ytobanhbjkomieaa.BP Go.Proofs.YtobanhbjkomieaaW.PrintWords Go.Proofs.YtobanhbjkomieaaW.PrintLast Go.Proofs.YtobanhbjkomieaaW.PrintMore
set_option linter.unusedSimpArgs false
set_option linter.unusedVariables false
/-! ### what an entry says -/
structure It where
  ten : List UInt8
  cl : List UInt8
  rc : Rc
  tn : Tn
deriving DecidableEq
def noIt : It := ⟨[], [], noRc, noTn⟩
def itV (x : It) : Value := .agg #[.string ⟨x.ten.toArray⟩, .string ⟨x.cl.toArray⟩, .string ⟨x.rc.rep.toArray⟩, .int .i64 x.rc.ep, .int .i64 x.rc.tm, .bool x.rc.gone, .int .i64 x.tn.live, .int .i64 x.tn.ep]
def readIt (key val : List UInt8) : It × Int :=
  if (readK key).2.2 = false then (noIt, 1)
  else if (readK key).2.1 = [] then (if (decTn val).2 ≠ 0 then (noIt, (decTn val).2) else (⟨(readK key).1, [], noRc, (decTn val).1⟩, 0))
  else (if (decRc val).2 ≠ 0 then (noIt, (decRc val).2) else (⟨(readK key).1, (readK key).2.1, (decRc val).1, noTn⟩, 0))
def itR (r : It × Int) : Value := .tuple #[itV r.1, .int .i64 r.2]
theorem blk_put8 {w : World} {g : Nat} {t : TypeId} {a b c d e f h i a' b' c' d' e' f' h' i' : Value} (k0 : w.heap[g]? = some (.cells #[a, b, c, d, e, f, h, i] t (0, 0))) :
    ((((((((w.setCell ⟨g, 0, none⟩ a').setCell ⟨g, 1, none⟩ b').setCell ⟨g, 2, none⟩ c').setCell ⟨g, 3, none⟩ d').setCell ⟨g, 4, none⟩ e').setCell ⟨g, 5, none⟩ f').setCell ⟨g, 6, none⟩ h').setCell ⟨g, 7, none⟩ i').heap[g]? = some (.cells #[a', b', c', d', e', f', h', i'] t (0, 0)) := by
  have k1 := blk_put (cs' := #[a', b, c, d, e, f, h, i]) k0 0 a' rfl
  have k2 := blk_put (cs' := #[a', b', c, d, e, f, h, i]) k1 1 b' rfl
  have k3 := blk_put (cs' := #[a', b', c', d, e, f, h, i]) k2 2 c' rfl
  have k4 := blk_put (cs' := #[a', b', c', d', e, f, h, i]) k3 3 d' rfl
  have k5 := blk_put (cs' := #[a', b', c', d', e', f, h, i]) k4 4 e' rfl
  have k6 := blk_put (cs' := #[a', b', c', d', e', f', h, i]) k5 5 f' rfl
  have k7 := blk_put (cs' := #[a', b', c', d', e', f', h', i]) k6 6 h' rfl
  have k8 := blk_put (cs' := #[a', b', c', d', e', f', h', i']) k7 7 i' rfl
  exact k8
set_option maxHeartbeats 1000000 in
set_option maxRecDepth 100000 in
theorem readRec_any (key val : ByteArray) (hk : key.size ≤ 140737488351232) (hv : val.size ≤ 140737488351232) (w : World) :
    Calls Try.prog 79 #[.string key, .string val] w fun e w' => e = .returned (itR (readIt key.data.toList val.data.toList)) ∧ Below w.heap.size w w' := by
  have hkr := fun W => keysRead_any key hk W
  have hdt := fun W => decodeTen_any val hv W
  have hdr := fun W => decode_any val hv W
  unfold readIt itR
  unfold decV rcV at hdr
  unfold decTV tnV at hdt
  generalize readK key.data.toList = kk at *
  generalize decTn val.data.toList = dt at *
  generalize decRc val.data.toList = dr at *
  obtain ⟨dt, et⟩ := dt
  obtain ⟨dr, er⟩ := dr
  obtain ⟨kt, kc, ki⟩ := kk
  have HKR := Lib.hid hkr
  have HDT := Lib.hid hdt
  have HDR := Lib.hid hdr
  clear hkr hdt hdr
  simp only at HKR HDT HDR ⊢
  cases ki
  · rw [if_pos rfl]
    go_enter Try.func79, Try.ntmps79
    go_wp2_with fail
    refine (HKR.out _).mono ?_
    rintro e w1 ⟨rfl, n1, rfl⟩
    go_wp2_with fail
    have hr0 : ((w.alloc (.cells #[.string ⟨#[]⟩, .string ⟨#[]⟩, .string ⟨#[]⟩, .int .i64 0, .int .i64 0, .bool false, .int .i64 0, .int .i64 0] 113)).drewN n1).heap[w.heap.size]? = _ := heap_alloc_new w _
    refine bodyPost_ret (results_cell_tmp rfl _ _ w.heap.size 113 _ (0, 0) _ _ rfl rfl (blk_put8 hr0) Try.underlying113 rfl (by kernel_rfl)) rfl ?_
    refine ⟨rfl, ?_⟩
    iterate 8 refine Below.setCell ?_ (Nat.le_refl w.heap.size) _
    exact pw_below_drewN ((Below.refl _ _).alloc (Nat.le_refl _) _) _
  · rw [if_neg (by simp)]
    by_cases hc : kc = []
    · subst hc
      rw [if_pos rfl]
      go_enter Try.func79, Try.ntmps79
      go_wp2_with fail
      refine (HKR.out _).mono ?_
      rintro e w1 ⟨rfl, n1, rfl⟩
      go_wp2_with fail
      refine (HDT.out _).mono ?_
      rintro e w2 ⟨rfl, hb2⟩
      have hB2 := (below_alloc (pw_below_drewN (below_alloc (Below.refl w.heap.size w) (.cells #[.string ⟨#[]⟩, .string ⟨#[]⟩, .string ⟨#[]⟩, .int .i64 0, .int .i64 0, .bool false, .int .i64 0, .int .i64 0] 113)) n1) (.cells #[.string ⟨kt.toArray⟩, .string ⟨#[]⟩, .string ⟨#[]⟩, .int .i64 0, .int .i64 0, .bool false, .int .i64 0, .int .i64 0] 113)).trans (hb2.mono (by simp; omega))
      have HR2 := Lib.hid ((hb2.block w.heap.size (by simp; omega)).trans (blk_alloc (w := World.drewN _ n1) (heap_alloc_new w _) _))
      have HX2 := Lib.hid ((hb2.block (w.heap.size + 1) (by simp)).trans (heap_alloc_at (World.drewN _ n1) _ (by simp)))
      clear hb2
      generalize hX : w.heap.size + 1 = X at *
      generalize hRr : w.heap.size = R at *
      have ne : R ≠ X := by omega
      by_cases h0 : et = 0
      · subst h0
        have hcx0 := blk_cell HX2.out 0
        have hcx1 := blk_cell HX2.out 1
        have hcx2 := blk_cell HX2.out 2
        have hcx3 := blk_cell HX2.out 3
        have hcx4 := blk_cell HX2.out 4
        have hcx5 := blk_cell HX2.out 5
        have hcx6 := blk_cell HX2.out 6
        have hcx7 := blk_cell HX2.out 7
        have hfx0 := blk_frozen HX2.out 0
        have hfx1 := blk_frozen HX2.out 1
        have hfx2 := blk_frozen HX2.out 2
        have hfx3 := blk_frozen HX2.out 3
        have hfx4 := blk_frozen HX2.out 4
        have hfx5 := blk_frozen HX2.out 5
        have hfx6 := blk_frozen HX2.out 6
        have hfx7 := blk_frozen HX2.out 7
        have hcr0 := blk_cell HR2.out 0
        have hcr1 := blk_cell HR2.out 1
        have hcr2 := blk_cell HR2.out 2
        have hcr3 := blk_cell HR2.out 3
        have hcr4 := blk_cell HR2.out 4
        have hcr5 := blk_cell HR2.out 5
        have hcr6 := blk_cell HR2.out 6
        have hcr7 := blk_cell HR2.out 7
        have hfr0 := blk_frozen HR2.out 0
        have hfr1 := blk_frozen HR2.out 1
        have hfr2 := blk_frozen HR2.out 2
        have hfr3 := blk_frozen HR2.out 3
        have hfr4 := blk_frozen HR2.out 4
        have hfr5 := blk_frozen HR2.out 5
        have hfr6 := blk_frozen HR2.out 6
        have hfr7 := blk_frozen HR2.out 7
        simp at hcx0 hcx1 hcx2 hcx3 hcx4 hcx5 hcx6 hcx7 hcr0 hcr1 hcr2 hcr3 hcr4 hcr5 hcr6 hcr7
        go_wp2_with fail
        refine bodyPost_ret (results_cell_tmp rfl _ _ R 113 _ (0, 0) _ _ rfl rfl (blk_put8 (blk_far (blk_far HR2.out (p := ⟨X, 6, none⟩) ne _) (p := ⟨X, 7, none⟩) ne _)) Try.underlying113 rfl (by kernel_rfl)) rfl ?_
        refine ⟨by first | rfl | (rw [if_pos h0]; rfl) | (rw [if_neg (by simp)]; rfl), ?_⟩
        try rw [hRr]
        iterate 8 refine Below.setCell ?_ (Nat.le_refl R) _
        exact (hB2.setCell (p := ⟨X, 6, none⟩) (by show R ≤ X; omega) _).setCell (p := ⟨X, 7, none⟩) (by show R ≤ X; omega) _
      · have e0 : (et == 0) = false := beq_eq_false_iff_ne.2 h0
        have hcx0 := blk_cell HX2.out 0
        have hcx1 := blk_cell HX2.out 1
        have hcx2 := blk_cell HX2.out 2
        have hcx3 := blk_cell HX2.out 3
        have hcx4 := blk_cell HX2.out 4
        have hcx5 := blk_cell HX2.out 5
        have hcx6 := blk_cell HX2.out 6
        have hcx7 := blk_cell HX2.out 7
        have hfx0 := blk_frozen HX2.out 0
        have hfx1 := blk_frozen HX2.out 1
        have hfx2 := blk_frozen HX2.out 2
        have hfx3 := blk_frozen HX2.out 3
        have hfx4 := blk_frozen HX2.out 4
        have hfx5 := blk_frozen HX2.out 5
        have hfx6 := blk_frozen HX2.out 6
        have hfx7 := blk_frozen HX2.out 7
        have hcr0 := blk_cell HR2.out 0
        have hcr1 := blk_cell HR2.out 1
        have hcr2 := blk_cell HR2.out 2
        have hcr3 := blk_cell HR2.out 3
        have hcr4 := blk_cell HR2.out 4
        have hcr5 := blk_cell HR2.out 5
        have hcr6 := blk_cell HR2.out 6
        have hcr7 := blk_cell HR2.out 7
        have hfr0 := blk_frozen HR2.out 0
        have hfr1 := blk_frozen HR2.out 1
        have hfr2 := blk_frozen HR2.out 2
        have hfr3 := blk_frozen HR2.out 3
        have hfr4 := blk_frozen HR2.out 4
        have hfr5 := blk_frozen HR2.out 5
        have hfr6 := blk_frozen HR2.out 6
        have hfr7 := blk_frozen HR2.out 7
        simp at hcx0 hcx1 hcx2 hcx3 hcx4 hcx5 hcx6 hcx7 hcr0 hcr1 hcr2 hcr3 hcr4 hcr5 hcr6 hcr7
        go_wp2_with fail
        refine bodyPost_ret (results_cell_tmp rfl _ _ R 113 _ (0, 0) _ _ rfl rfl (blk_put8 (blk_far (blk_far HR2.out (p := ⟨X, 6, none⟩) ne _) (p := ⟨X, 7, none⟩) ne _)) Try.underlying113 rfl (by kernel_rfl)) rfl ?_
        refine ⟨by first | rfl | (rw [if_pos h0]; rfl) | (rw [if_neg (by simp)]; rfl), ?_⟩
        try rw [hRr]
        iterate 8 refine Below.setCell ?_ (Nat.le_refl R) _
        exact (hB2.setCell (p := ⟨X, 6, none⟩) (by show R ≤ X; omega) _).setCell (p := ⟨X, 7, none⟩) (by show R ≤ X; omega) _
    · rw [if_neg hc]
      have e1 : (⟨kc.toArray⟩ : ByteArray).toList = kc := toList_mk kc
      have e2 : kc.isEmpty = false := by cases kc; exact absurd rfl hc; rfl
      go_enter Try.func79, Try.ntmps79
      go_wp2_with fail
      refine (HKR.out _).mono ?_
      rintro e w1 ⟨rfl, n1, rfl⟩
      go_wp2_with fail
      refine (HDR.out _).mono ?_
      rintro e w2 ⟨rfl, hb2⟩
      have hB2 := (below_alloc (pw_below_drewN (below_alloc (Below.refl w.heap.size w) (.cells #[.string ⟨#[]⟩, .string ⟨#[]⟩, .string ⟨#[]⟩, .int .i64 0, .int .i64 0, .bool false, .int .i64 0, .int .i64 0] 113)) n1) (.cells #[.string ⟨kt.toArray⟩, .string ⟨kc.toArray⟩, .string ⟨#[]⟩, .int .i64 0, .int .i64 0, .bool false, .int .i64 0, .int .i64 0] 113)).trans (hb2.mono (by simp; omega))
      have HR2 := Lib.hid ((hb2.block w.heap.size (by simp; omega)).trans (blk_alloc (w := World.drewN _ n1) (heap_alloc_new w _) _))
      have HX2 := Lib.hid ((hb2.block (w.heap.size + 1) (by simp)).trans (heap_alloc_at (World.drewN _ n1) _ (by simp)))
      clear hb2
      generalize hX : w.heap.size + 1 = X at *
      generalize hRr : w.heap.size = R at *
      have ne : R ≠ X := by omega
      by_cases h0 : er = 0
      · subst h0
        have hcx0 := blk_cell HX2.out 0
        have hcx1 := blk_cell HX2.out 1
        have hcx2 := blk_cell HX2.out 2
        have hcx3 := blk_cell HX2.out 3
        have hcx4 := blk_cell HX2.out 4
        have hcx5 := blk_cell HX2.out 5
        have hcx6 := blk_cell HX2.out 6
        have hcx7 := blk_cell HX2.out 7
        have hfx0 := blk_frozen HX2.out 0
        have hfx1 := blk_frozen HX2.out 1
        have hfx2 := blk_frozen HX2.out 2
        have hfx3 := blk_frozen HX2.out 3
        have hfx4 := blk_frozen HX2.out 4
        have hfx5 := blk_frozen HX2.out 5
        have hfx6 := blk_frozen HX2.out 6
        have hfx7 := blk_frozen HX2.out 7
        have hcr0 := blk_cell HR2.out 0
        have hcr1 := blk_cell HR2.out 1
        have hcr2 := blk_cell HR2.out 2
        have hcr3 := blk_cell HR2.out 3
        have hcr4 := blk_cell HR2.out 4
        have hcr5 := blk_cell HR2.out 5
        have hcr6 := blk_cell HR2.out 6
        have hcr7 := blk_cell HR2.out 7
        have hfr0 := blk_frozen HR2.out 0
        have hfr1 := blk_frozen HR2.out 1
        have hfr2 := blk_frozen HR2.out 2
        have hfr3 := blk_frozen HR2.out 3
        have hfr4 := blk_frozen HR2.out 4
        have hfr5 := blk_frozen HR2.out 5
        have hfr6 := blk_frozen HR2.out 6
        have hfr7 := blk_frozen HR2.out 7
        simp at hcx0 hcx1 hcx2 hcx3 hcx4 hcx5 hcx6 hcx7 hcr0 hcr1 hcr2 hcr3 hcr4 hcr5 hcr6 hcr7
        go_wp2_with fail
        refine bodyPost_ret (results_cell_tmp rfl _ _ R 113 _ (0, 0) _ _ rfl rfl (blk_put8 (blk_far (blk_far (blk_far (blk_far HR2.out (p := ⟨X, 2, none⟩) ne _) (p := ⟨X, 3, none⟩) ne _) (p := ⟨X, 4, none⟩) ne _) (p := ⟨X, 5, none⟩) ne _)) Try.underlying113 rfl (by kernel_rfl)) rfl ?_
        refine ⟨by first | rfl | (rw [if_pos h0]; rfl) | (rw [if_neg (by simp)]; rfl), ?_⟩
        try rw [hRr]
        iterate 8 refine Below.setCell ?_ (Nat.le_refl R) _
        exact (((hB2.setCell (p := ⟨X, 2, none⟩) (by show R ≤ X; omega) _).setCell (p := ⟨X, 3, none⟩) (by show R ≤ X; omega) _).setCell (p := ⟨X, 4, none⟩) (by show R ≤ X; omega) _).setCell (p := ⟨X, 5, none⟩) (by show R ≤ X; omega) _
      · have e0 : (er == 0) = false := beq_eq_false_iff_ne.2 h0
        have hcx0 := blk_cell HX2.out 0
        have hcx1 := blk_cell HX2.out 1
        have hcx2 := blk_cell HX2.out 2
        have hcx3 := blk_cell HX2.out 3
        have hcx4 := blk_cell HX2.out 4
        have hcx5 := blk_cell HX2.out 5
        have hcx6 := blk_cell HX2.out 6
        have hcx7 := blk_cell HX2.out 7
        have hfx0 := blk_frozen HX2.out 0
        have hfx1 := blk_frozen HX2.out 1
        have hfx2 := blk_frozen HX2.out 2
        have hfx3 := blk_frozen HX2.out 3
        have hfx4 := blk_frozen HX2.out 4
        have hfx5 := blk_frozen HX2.out 5
        have hfx6 := blk_frozen HX2.out 6
        have hfx7 := blk_frozen HX2.out 7
        have hcr0 := blk_cell HR2.out 0
        have hcr1 := blk_cell HR2.out 1
        have hcr2 := blk_cell HR2.out 2
        have hcr3 := blk_cell HR2.out 3
        have hcr4 := blk_cell HR2.out 4
        have hcr5 := blk_cell HR2.out 5
        have hcr6 := blk_cell HR2.out 6
        have hcr7 := blk_cell HR2.out 7
        have hfr0 := blk_frozen HR2.out 0
        have hfr1 := blk_frozen HR2.out 1
        have hfr2 := blk_frozen HR2.out 2
        have hfr3 := blk_frozen HR2.out 3
        have hfr4 := blk_frozen HR2.out 4
        have hfr5 := blk_frozen HR2.out 5
        have hfr6 := blk_frozen HR2.out 6
        have hfr7 := blk_frozen HR2.out 7
        simp at hcx0 hcx1 hcx2 hcx3 hcx4 hcx5 hcx6 hcx7 hcr0 hcr1 hcr2 hcr3 hcr4 hcr5 hcr6 hcr7
        go_wp2_with fail
        refine bodyPost_ret (results_cell_tmp rfl _ _ R 113 _ (0, 0) _ _ rfl rfl (blk_put8 (blk_far (blk_far (blk_far (blk_far HR2.out (p := ⟨X, 2, none⟩) ne _) (p := ⟨X, 3, none⟩) ne _) (p := ⟨X, 4, none⟩) ne _) (p := ⟨X, 5, none⟩) ne _)) Try.underlying113 rfl (by kernel_rfl)) rfl ?_
        refine ⟨by first | rfl | (rw [if_pos h0]; rfl) | (rw [if_neg (by simp)]; rfl), ?_⟩
        try rw [hRr]
        iterate 8 refine Below.setCell ?_ (Nat.le_refl R) _
        exact (((hB2.setCell (p := ⟨X, 2, none⟩) (by show R ≤ X; omega) _).setCell (p := ⟨X, 3, none⟩) (by show R ≤ X; omega) _).setCell (p := ⟨X, 4, none⟩) (by show R ≤ X; omega) _).setCell (p := ⟨X, 5, none⟩) (by show R ≤ X; omega) _
set_option maxHeartbeats 1000000 in
set_option maxRecDepth 100000 in
theorem refReadRec_any (key val : ByteArray) (hk : key.size ≤ 140737488351232) (hv : val.size ≤ 140737488351232) (w : World) :
    Calls Try.prog 80 #[.string key, .string val] w fun e w' => e = .returned (itR (readIt key.data.toList val.data.toList)) ∧ Below w.heap.size w w' := by
  have hkr := fun W => refRead_any key hk W
  have hdt := fun W => refDecodeTen_any val hv W
  have hdr := fun W => refDecode_any val hv W
  unfold readIt itR
  unfold decV rcV at hdr
  unfold decTV tnV at hdt
  generalize readK key.data.toList = kk at *
  generalize decTn val.data.toList = dt at *
  generalize decRc val.data.toList = dr at *
  obtain ⟨dt, et⟩ := dt
  obtain ⟨dr, er⟩ := dr
  obtain ⟨kt, kc, ki⟩ := kk
  have HKR := Lib.hid hkr
  have HDT := Lib.hid hdt
  have HDR := Lib.hid hdr
  clear hkr hdt hdr
  simp only at HKR HDT HDR ⊢
  cases ki
  · rw [if_pos rfl]
    go_enter Try.func80, Try.ntmps80
    go_wp2_with fail
    refine (HKR.out _).mono ?_
    rintro e w1 ⟨rfl, n1, rfl⟩
    go_wp2_with fail
    have hr0 : ((w.alloc (.cells #[.string ⟨#[]⟩, .string ⟨#[]⟩, .string ⟨#[]⟩, .int .i64 0, .int .i64 0, .bool false, .int .i64 0, .int .i64 0] 116)).drewN n1).heap[w.heap.size]? = _ := heap_alloc_new w _
    refine bodyPost_ret (results_cell_tmp rfl _ _ w.heap.size 116 _ (0, 0) _ _ rfl rfl (blk_put8 hr0) Try.underlying116 rfl (by kernel_rfl)) rfl ?_
    refine ⟨rfl, ?_⟩
    iterate 8 refine Below.setCell ?_ (Nat.le_refl w.heap.size) _
    exact pw_below_drewN ((Below.refl _ _).alloc (Nat.le_refl _) _) _
  · rw [if_neg (by simp)]
    by_cases hc : kc = []
    · subst hc
      rw [if_pos rfl]
      go_enter Try.func80, Try.ntmps80
      go_wp2_with fail
      refine (HKR.out _).mono ?_
      rintro e w1 ⟨rfl, n1, rfl⟩
      go_wp2_with fail
      refine (HDT.out _).mono ?_
      rintro e w2 ⟨rfl, hb2⟩
      have hB2 := (below_alloc (pw_below_drewN (below_alloc (Below.refl w.heap.size w) (.cells #[.string ⟨#[]⟩, .string ⟨#[]⟩, .string ⟨#[]⟩, .int .i64 0, .int .i64 0, .bool false, .int .i64 0, .int .i64 0] 116)) n1) (.cells #[.string ⟨kt.toArray⟩, .string ⟨#[]⟩, .string ⟨#[]⟩, .int .i64 0, .int .i64 0, .bool false, .int .i64 0, .int .i64 0] 116)).trans (hb2.mono (by simp; omega))
      have HR2 := Lib.hid ((hb2.block w.heap.size (by simp; omega)).trans (blk_alloc (w := World.drewN _ n1) (heap_alloc_new w _) _))
      have HX2 := Lib.hid ((hb2.block (w.heap.size + 1) (by simp)).trans (heap_alloc_at (World.drewN _ n1) _ (by simp)))
      clear hb2
      generalize hX : w.heap.size + 1 = X at *
      generalize hRr : w.heap.size = R at *
      have ne : R ≠ X := by omega
      by_cases h0 : et = 0
      · subst h0
        have hcx0 := blk_cell HX2.out 0
        have hcx1 := blk_cell HX2.out 1
        have hcx2 := blk_cell HX2.out 2
        have hcx3 := blk_cell HX2.out 3
        have hcx4 := blk_cell HX2.out 4
        have hcx5 := blk_cell HX2.out 5
        have hcx6 := blk_cell HX2.out 6
        have hcx7 := blk_cell HX2.out 7
        have hfx0 := blk_frozen HX2.out 0
        have hfx1 := blk_frozen HX2.out 1
        have hfx2 := blk_frozen HX2.out 2
        have hfx3 := blk_frozen HX2.out 3
        have hfx4 := blk_frozen HX2.out 4
        have hfx5 := blk_frozen HX2.out 5
        have hfx6 := blk_frozen HX2.out 6
        have hfx7 := blk_frozen HX2.out 7
        have hcr0 := blk_cell HR2.out 0
        have hcr1 := blk_cell HR2.out 1
        have hcr2 := blk_cell HR2.out 2
        have hcr3 := blk_cell HR2.out 3
        have hcr4 := blk_cell HR2.out 4
        have hcr5 := blk_cell HR2.out 5
        have hcr6 := blk_cell HR2.out 6
        have hcr7 := blk_cell HR2.out 7
        have hfr0 := blk_frozen HR2.out 0
        have hfr1 := blk_frozen HR2.out 1
        have hfr2 := blk_frozen HR2.out 2
        have hfr3 := blk_frozen HR2.out 3
        have hfr4 := blk_frozen HR2.out 4
        have hfr5 := blk_frozen HR2.out 5
        have hfr6 := blk_frozen HR2.out 6
        have hfr7 := blk_frozen HR2.out 7
        simp at hcx0 hcx1 hcx2 hcx3 hcx4 hcx5 hcx6 hcx7 hcr0 hcr1 hcr2 hcr3 hcr4 hcr5 hcr6 hcr7
        go_wp2_with fail
        refine bodyPost_ret (results_cell_tmp rfl _ _ R 116 _ (0, 0) _ _ rfl rfl (blk_put8 (blk_far (blk_far HR2.out (p := ⟨X, 6, none⟩) ne _) (p := ⟨X, 7, none⟩) ne _)) Try.underlying116 rfl (by kernel_rfl)) rfl ?_
        refine ⟨by first | rfl | (rw [if_pos h0]; rfl) | (rw [if_neg (by simp)]; rfl), ?_⟩
        try rw [hRr]
        iterate 8 refine Below.setCell ?_ (Nat.le_refl R) _
        exact (hB2.setCell (p := ⟨X, 6, none⟩) (by show R ≤ X; omega) _).setCell (p := ⟨X, 7, none⟩) (by show R ≤ X; omega) _
      · have e0 : (et == 0) = false := beq_eq_false_iff_ne.2 h0
        have hcx0 := blk_cell HX2.out 0
        have hcx1 := blk_cell HX2.out 1
        have hcx2 := blk_cell HX2.out 2
        have hcx3 := blk_cell HX2.out 3
        have hcx4 := blk_cell HX2.out 4
        have hcx5 := blk_cell HX2.out 5
        have hcx6 := blk_cell HX2.out 6
        have hcx7 := blk_cell HX2.out 7
        have hfx0 := blk_frozen HX2.out 0
        have hfx1 := blk_frozen HX2.out 1
        have hfx2 := blk_frozen HX2.out 2
        have hfx3 := blk_frozen HX2.out 3
        have hfx4 := blk_frozen HX2.out 4
        have hfx5 := blk_frozen HX2.out 5
        have hfx6 := blk_frozen HX2.out 6
        have hfx7 := blk_frozen HX2.out 7
        have hcr0 := blk_cell HR2.out 0
        have hcr1 := blk_cell HR2.out 1
        have hcr2 := blk_cell HR2.out 2
        have hcr3 := blk_cell HR2.out 3
        have hcr4 := blk_cell HR2.out 4
        have hcr5 := blk_cell HR2.out 5
        have hcr6 := blk_cell HR2.out 6
        have hcr7 := blk_cell HR2.out 7
        have hfr0 := blk_frozen HR2.out 0
        have hfr1 := blk_frozen HR2.out 1
        have hfr2 := blk_frozen HR2.out 2
        have hfr3 := blk_frozen HR2.out 3
        have hfr4 := blk_frozen HR2.out 4
        have hfr5 := blk_frozen HR2.out 5
        have hfr6 := blk_frozen HR2.out 6
        have hfr7 := blk_frozen HR2.out 7
        simp at hcx0 hcx1 hcx2 hcx3 hcx4 hcx5 hcx6 hcx7 hcr0 hcr1 hcr2 hcr3 hcr4 hcr5 hcr6 hcr7
        go_wp2_with fail
        refine bodyPost_ret (results_cell_tmp rfl _ _ R 116 _ (0, 0) _ _ rfl rfl (blk_put8 (blk_far (blk_far HR2.out (p := ⟨X, 6, none⟩) ne _) (p := ⟨X, 7, none⟩) ne _)) Try.underlying116 rfl (by kernel_rfl)) rfl ?_
        refine ⟨by first | rfl | (rw [if_pos h0]; rfl) | (rw [if_neg (by simp)]; rfl), ?_⟩
        try rw [hRr]
        iterate 8 refine Below.setCell ?_ (Nat.le_refl R) _
        exact (hB2.setCell (p := ⟨X, 6, none⟩) (by show R ≤ X; omega) _).setCell (p := ⟨X, 7, none⟩) (by show R ≤ X; omega) _
    · rw [if_neg hc]
      have e1 : (⟨kc.toArray⟩ : ByteArray).toList = kc := toList_mk kc
      have e2 : kc.isEmpty = false := by cases kc; exact absurd rfl hc; rfl
      go_enter Try.func80, Try.ntmps80
      go_wp2_with fail
      refine (HKR.out _).mono ?_
      rintro e w1 ⟨rfl, n1, rfl⟩
      go_wp2_with fail
      refine (HDR.out _).mono ?_
      rintro e w2 ⟨rfl, hb2⟩
      have hB2 := (below_alloc (pw_below_drewN (below_alloc (Below.refl w.heap.size w) (.cells #[.string ⟨#[]⟩, .string ⟨#[]⟩, .string ⟨#[]⟩, .int .i64 0, .int .i64 0, .bool false, .int .i64 0, .int .i64 0] 116)) n1) (.cells #[.string ⟨kt.toArray⟩, .string ⟨kc.toArray⟩, .string ⟨#[]⟩, .int .i64 0, .int .i64 0, .bool false, .int .i64 0, .int .i64 0] 116)).trans (hb2.mono (by simp; omega))
      have HR2 := Lib.hid ((hb2.block w.heap.size (by simp; omega)).trans (blk_alloc (w := World.drewN _ n1) (heap_alloc_new w _) _))
      have HX2 := Lib.hid ((hb2.block (w.heap.size + 1) (by simp)).trans (heap_alloc_at (World.drewN _ n1) _ (by simp)))
      clear hb2
      generalize hX : w.heap.size + 1 = X at *
      generalize hRr : w.heap.size = R at *
      have ne : R ≠ X := by omega
      by_cases h0 : er = 0
      · subst h0
        have hcx0 := blk_cell HX2.out 0
        have hcx1 := blk_cell HX2.out 1
        have hcx2 := blk_cell HX2.out 2
        have hcx3 := blk_cell HX2.out 3
        have hcx4 := blk_cell HX2.out 4
        have hcx5 := blk_cell HX2.out 5
        have hcx6 := blk_cell HX2.out 6
        have hcx7 := blk_cell HX2.out 7
        have hfx0 := blk_frozen HX2.out 0
        have hfx1 := blk_frozen HX2.out 1
        have hfx2 := blk_frozen HX2.out 2
        have hfx3 := blk_frozen HX2.out 3
        have hfx4 := blk_frozen HX2.out 4
        have hfx5 := blk_frozen HX2.out 5
        have hfx6 := blk_frozen HX2.out 6
        have hfx7 := blk_frozen HX2.out 7
        have hcr0 := blk_cell HR2.out 0
        have hcr1 := blk_cell HR2.out 1
        have hcr2 := blk_cell HR2.out 2
        have hcr3 := blk_cell HR2.out 3
        have hcr4 := blk_cell HR2.out 4
        have hcr5 := blk_cell HR2.out 5
        have hcr6 := blk_cell HR2.out 6
        have hcr7 := blk_cell HR2.out 7
        have hfr0 := blk_frozen HR2.out 0
        have hfr1 := blk_frozen HR2.out 1
        have hfr2 := blk_frozen HR2.out 2
        have hfr3 := blk_frozen HR2.out 3
        have hfr4 := blk_frozen HR2.out 4
        have hfr5 := blk_frozen HR2.out 5
        have hfr6 := blk_frozen HR2.out 6
        have hfr7 := blk_frozen HR2.out 7
        simp at hcx0 hcx1 hcx2 hcx3 hcx4 hcx5 hcx6 hcx7 hcr0 hcr1 hcr2 hcr3 hcr4 hcr5 hcr6 hcr7
        go_wp2_with fail
        refine bodyPost_ret (results_cell_tmp rfl _ _ R 116 _ (0, 0) _ _ rfl rfl (blk_put8 (blk_far (blk_far (blk_far (blk_far HR2.out (p := ⟨X, 2, none⟩) ne _) (p := ⟨X, 3, none⟩) ne _) (p := ⟨X, 4, none⟩) ne _) (p := ⟨X, 5, none⟩) ne _)) Try.underlying116 rfl (by kernel_rfl)) rfl ?_
        refine ⟨by first | rfl | (rw [if_pos h0]; rfl) | (rw [if_neg (by simp)]; rfl), ?_⟩
        try rw [hRr]
        iterate 8 refine Below.setCell ?_ (Nat.le_refl R) _
        exact (((hB2.setCell (p := ⟨X, 2, none⟩) (by show R ≤ X; omega) _).setCell (p := ⟨X, 3, none⟩) (by show R ≤ X; omega) _).setCell (p := ⟨X, 4, none⟩) (by show R ≤ X; omega) _).setCell (p := ⟨X, 5, none⟩) (by show R ≤ X; omega) _
      · have e0 : (er == 0) = false := beq_eq_false_iff_ne.2 h0
        have hcx0 := blk_cell HX2.out 0
        have hcx1 := blk_cell HX2.out 1
        have hcx2 := blk_cell HX2.out 2
        have hcx3 := blk_cell HX2.out 3
        have hcx4 := blk_cell HX2.out 4
        have hcx5 := blk_cell HX2.out 5
        have hcx6 := blk_cell HX2.out 6
        have hcx7 := blk_cell HX2.out 7
        have hfx0 := blk_frozen HX2.out 0
        have hfx1 := blk_frozen HX2.out 1
        have hfx2 := blk_frozen HX2.out 2
        have hfx3 := blk_frozen HX2.out 3
        have hfx4 := blk_frozen HX2.out 4
        have hfx5 := blk_frozen HX2.out 5
        have hfx6 := blk_frozen HX2.out 6
        have hfx7 := blk_frozen HX2.out 7
        have hcr0 := blk_cell HR2.out 0
        have hcr1 := blk_cell HR2.out 1
        have hcr2 := blk_cell HR2.out 2
        have hcr3 := blk_cell HR2.out 3
        have hcr4 := blk_cell HR2.out 4
        have hcr5 := blk_cell HR2.out 5
        have hcr6 := blk_cell HR2.out 6
        have hcr7 := blk_cell HR2.out 7
        have hfr0 := blk_frozen HR2.out 0
        have hfr1 := blk_frozen HR2.out 1
        have hfr2 := blk_frozen HR2.out 2
        have hfr3 := blk_frozen HR2.out 3
        have hfr4 := blk_frozen HR2.out 4
        have hfr5 := blk_frozen HR2.out 5
        have hfr6 := blk_frozen HR2.out 6
        have hfr7 := blk_frozen HR2.out 7
        simp at hcx0 hcx1 hcx2 hcx3 hcx4 hcx5 hcx6 hcx7 hcr0 hcr1 hcr2 hcr3 hcr4 hcr5 hcr6 hcr7
        go_wp2_with fail
        refine bodyPost_ret (results_cell_tmp rfl _ _ R 116 _ (0, 0) _ _ rfl rfl (blk_put8 (blk_far (blk_far (blk_far (blk_far HR2.out (p := ⟨X, 2, none⟩) ne _) (p := ⟨X, 3, none⟩) ne _) (p := ⟨X, 4, none⟩) ne _) (p := ⟨X, 5, none⟩) ne _)) Try.underlying116 rfl (by kernel_rfl)) rfl ?_
        refine ⟨by first | rfl | (rw [if_pos h0]; rfl) | (rw [if_neg (by simp)]; rfl), ?_⟩
        try rw [hRr]
        iterate 8 refine Below.setCell ?_ (Nat.le_refl R) _
        exact (((hB2.setCell (p := ⟨X, 2, none⟩) (by show R ≤ X; omega) _).setCell (p := ⟨X, 3, none⟩) (by show R ≤ X; omega) _).setCell (p := ⟨X, 4, none⟩) (by show R ≤ X; omega) _).setCell (p := ⟨X, 5, none⟩) (by show R ≤ X; omega) _
end Go.Proofs.Ytobanhbjkomieaa.RP
