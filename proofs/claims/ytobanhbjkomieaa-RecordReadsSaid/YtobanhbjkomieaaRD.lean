import Derived.Test.YtobanhbjkomieaaRC
namespace Go.Proofs.Ytobanhbjkomieaa.RP
open Go.RowKit Go.Proofs.Ytobanhbjkomieaa.PAll Go.Proofs.Ytobanhbjkomieaa.KP Go.Proofs.Ytobanhbjkomieaa.BP Go.Proofs.YtobanhbjkomieaaW.PrintWords Go.Proofs.YtobanhbjkomieaaW.PrintLast Go.Proofs.YtobanhbjkomieaaW.PrintMore
open Go.Proofs.Ytobanhbjkomieaa.PRd (IsS225)
/-! ### the readers' contracts -/
section
variable (s : ByteArray) (hs : s.size ≤ 140737488351232) (g p : Nat) (hp : p ≤ s.size) (e : Int) (w0 w : World)
include hs hp
theorem len_of : s.data.toList.length ≤ 140737488351232 ∧ p ≤ s.data.toList.length := by
  rw [data_length]; exact ⟨hs, hp⟩
theorem rdText_any (most : Nat) (hm : most ≤ 140737488351232) (hI : IsS225 w0 w g s p e) (hB : Below w0.heap.size w0 w) :
    Calls Try.prog 145 #[.pointer (some ⟨g, 0, none⟩), .int .i64 most] w fun r w' => r = .returned (.string ⟨(rdT s.data.toList p e most).1.toArray⟩) ∧ IsS225 w0 w' g s (rdT s.data.toList p e most).2.1 (rdT s.data.toList p e most).2.2 ∧ Below w0.heap.size w0 w' ∧ KeepBut w w' g none := by
  obtain ⟨h1, h2⟩ := len_of s hs p hp
  have h := t_ev s.data.toList h1 p h2 e most hm
  rw [Lib.mk_data] at h
  exact ev_calls h (fun k h => PRd.bits_Reader_Text.calls k g _ _ _ _ _ _ _ _ w0 w hI hB h)
theorem rdVarint_any (most : Nat) (hI : IsS225 w0 w g s p e) (hB : Below w0.heap.size w0 w) :
    Calls Try.prog 146 #[.pointer (some ⟨g, 0, none⟩), .int .u64 most] w fun r w' => r = .returned (.int .u64 (rdV s.data.toList p e most).1) ∧ IsS225 w0 w' g s (rdV s.data.toList p e most).2.1 (rdV s.data.toList p e most).2.2 ∧ Below w0.heap.size w0 w' ∧ KeepBut w w' g none := by
  obtain ⟨h1, h2⟩ := len_of s hs p hp
  have h := v_ev s.data.toList h1 p h2 e most
  rw [Lib.mk_data] at h
  exact ev_calls h (fun k h => PRd.bits_Reader_Varint.calls k g _ _ _ _ _ _ _ _ w0 w hI hB h)
theorem rdByte_any (hI : IsS225 w0 w g s p e) (hB : Below w0.heap.size w0 w) :
    Calls Try.prog 147 #[.pointer (some ⟨g, 0, none⟩)] w fun r w' => r = .returned (.int .u8 (rdB s.data.toList p e).1) ∧ IsS225 w0 w' g s (rdB s.data.toList p e).2.1 (rdB s.data.toList p e).2.2 ∧ Below w0.heap.size w0 w' ∧ KeepBut w w' g none := by
  obtain ⟨h1, h2⟩ := len_of s hs p hp
  have h := b_eq s.data.toList h1 p h2 e
  rw [Lib.mk_data] at h
  exact PRd.bits_Reader_Byte.calls g _ _ _ _ _ _ _ w0 w hI hB h
theorem refRdText_any (most : Nat) (hm : most ≤ 140737488351232) (hI : IsS187 w0 w g s p e) (hB : Below w0.heap.size w0 w) :
    Calls Try.prog 148 #[.pointer (some ⟨g, 0, none⟩), .int .i64 most] w fun r w' => r = .returned (.string ⟨(rdT s.data.toList p e most).1.toArray⟩) ∧ IsS187 w0 w' g s (rdT s.data.toList p e most).2.1 (rdT s.data.toList p e most).2.2 ∧ Below w0.heap.size w0 w' ∧ KeepBut w w' g none := by
  obtain ⟨h1, h2⟩ := len_of s hs p hp
  have h := refT_ev s.data.toList h1 p h2 e most hm
  rw [Lib.mk_data] at h
  exact ev_calls h (fun k h => batonref01_Reader_Text.calls k g _ _ _ _ _ _ _ _ w0 w hI hB h)
theorem refRdVarint_any (most : Nat) (hI : IsS187 w0 w g s p e) (hB : Below w0.heap.size w0 w) :
    Calls Try.prog 149 #[.pointer (some ⟨g, 0, none⟩), .int .u64 most] w fun r w' => r = .returned (.int .u64 (rdV s.data.toList p e most).1) ∧ IsS187 w0 w' g s (rdV s.data.toList p e most).2.1 (rdV s.data.toList p e most).2.2 ∧ Below w0.heap.size w0 w' ∧ KeepBut w w' g none := by
  obtain ⟨h1, h2⟩ := len_of s hs p hp
  have h := refV_ev s.data.toList h1 p h2 e most
  rw [Lib.mk_data] at h
  exact ev_calls h (fun k h => batonref01_Reader_Varint.calls k g _ _ _ _ _ _ _ _ w0 w hI hB h)
theorem refRdByte_any (hI : IsS187 w0 w g s p e) (hB : Below w0.heap.size w0 w) :
    Calls Try.prog 150 #[.pointer (some ⟨g, 0, none⟩)] w fun r w' => r = .returned (.int .u8 (rdB s.data.toList p e).1) ∧ IsS187 w0 w' g s (rdB s.data.toList p e).2.1 (rdB s.data.toList p e).2.2 ∧ Below w0.heap.size w0 w' ∧ KeepBut w w' g none := by
  obtain ⟨h1, h2⟩ := len_of s hs p hp
  have h := refB_eq s.data.toList h1 p h2 e
  rw [Lib.mk_data] at h
  exact batonref01_Reader_Byte.calls g _ _ _ _ _ _ _ w0 w hI hB h
end
/-! ### what a record's bytes say -/
/-- Replica, epoch, time, the byte of 'gone'; place, error. -/
def decAt (s : List UInt8) : List UInt8 × Nat × Nat × Nat × Nat × Int :=
  let t := rdT s 0 0 24
  let v := rdV s t.2.1 t.2.2 1099511627776
  let u := rdV s v.2.1 v.2.2 1125899906842624
  let b := rdB s u.2.1 u.2.2
  (t.1, v.1, u.1, b.1, b.2.1, b.2.2)
set_option maxHeartbeats 1000000 in
set_option maxRecDepth 100000 in
theorem dec2_gen (s : ByteArray) (g b : Nat) (x : Int) (w0 w : World) (t : List UInt8 × Nat × Int) (v u y : Nat × Nat × Int) (hv : v.1 ≤ 1099511627776) (hu : u.1 ≤ 1125899906842624)
    (c1 : ∀ w, IsS225 w0 w g s 0 0 → Below w0.heap.size w0 w → Calls Try.prog 145 #[.pointer (some ⟨g, 0, none⟩), .int .i64 24] w fun r w' => r = .returned (.string ⟨t.1.toArray⟩) ∧ IsS225 w0 w' g s t.2.1 t.2.2 ∧ Below w0.heap.size w0 w' ∧ KeepBut w w' g none)
    (c2 : ∀ w, IsS225 w0 w g s t.2.1 t.2.2 → Below w0.heap.size w0 w → Calls Try.prog 146 #[.pointer (some ⟨g, 0, none⟩), .int .u64 1099511627776] w fun r w' => r = .returned (.int .u64 v.1) ∧ IsS225 w0 w' g s v.2.1 v.2.2 ∧ Below w0.heap.size w0 w' ∧ KeepBut w w' g none)
    (c3 : ∀ w, IsS225 w0 w g s v.2.1 v.2.2 → Below w0.heap.size w0 w → Calls Try.prog 146 #[.pointer (some ⟨g, 0, none⟩), .int .u64 1125899906842624] w fun r w' => r = .returned (.int .u64 u.1) ∧ IsS225 w0 w' g s u.2.1 u.2.2 ∧ Below w0.heap.size w0 w' ∧ KeepBut w w' g none)
    (c4 : ∀ w, IsS225 w0 w g s u.2.1 u.2.2 → Below w0.heap.size w0 w → Calls Try.prog 147 #[.pointer (some ⟨g, 0, none⟩)] w fun r w' => r = .returned (.int .u8 y.1) ∧ IsS225 w0 w' g s y.2.1 y.2.2 ∧ Below w0.heap.size w0 w' ∧ KeepBut w w' g none)
    (hI : IsS225 w0 w g s 0 0) (hB : Below w0.heap.size w0 w)
    (hb : w.heap[b]? = some (.cells #[.int .u8 x] 5 (0, 0))) (hbl : w0.heap.size ≤ b) (hne : b ≠ g) :
    Calls Try.prog 144 #[.pointer (some ⟨g, 0, none⟩), .pointer (some ⟨b, 0, none⟩)] w fun r w' =>
      r = .returned (.agg #[.string ⟨t.1.toArray⟩, .int .i64 v.1, .int .i64 u.1, .bool (decide (y.1 = 1))]) ∧
      IsS225 w0 w' g s y.2.1 y.2.2 ∧ w'.heap[b]? = some (.cells #[.int .u8 y.1] 5 (0, 0)) ∧ Below w0.heap.size w0 w' ∧ Kept w w' (fun k => k = g ∨ k = b) := by
  have C1 := Lib.hid c1
  have C2 := Lib.hid c2
  have C3 := Lib.hid c3
  have C4 := Lib.hid c4
  have hv2 : wrap64 (v.1 : Int) = v.1 := by unfold wrap64; omega
  have hu2 : wrap64 (u.1 : Int) = u.1 := by unfold wrap64; omega
  clear c1 c2 c3 c4
  have hbw : b < w.heap.size := blk_lt hb
  have hgw := PRd.IsS225.lt hI
  go_enter Try.func144, Try.ntmps144
  go_wp2_with fail
  refine (C1.out _ ?_ ?_).mono ?_
  · exact hI.alloc _
  · exact below_alloc hB _
  rintro e w1 ⟨rfl, hI1, hB1, hK1⟩
  have P1 := Lib.hid (((Kept.refl w (fun k => k = g ∨ k = b)).alloc _).of_keep hK1 (.inl (.inl rfl)))
  have hb1 := (hK1.2 b (by simp; omega) hne (by simp)).trans (blk_alloc hb _)
  have hr1 := (hK1.2 w.heap.size (by simp) (by omega) (by simp)).trans (heap_alloc_new w _)
  go_wp2_with fail
  refine (C2.out _ hI1 hB1).mono ?_
  rintro e w2 ⟨rfl, hI2, hB2, hK2⟩
  have P2 := Lib.hid (P1.out.of_keep hK2 (.inl (.inl rfl)))
  have hb2 := (hK2.2 b (blk_lt hb1) hne (by simp)).trans hb1
  have hr2 := (hK2.2 w.heap.size (blk_lt hr1) (by omega) (by simp)).trans hr1
  clear hb1 hr1 hK1 hI1 hB1 hK2
  go_wp2_with fail
  refine (C3.out _ hI2 hB2).mono ?_
  rintro e w3 ⟨rfl, hI3, hB3, hK3⟩
  have P3 := Lib.hid (P2.out.of_keep hK3 (.inl (.inl rfl)))
  have hb3 := (hK3.2 b (blk_lt hb2) hne (by simp)).trans hb2
  have hr3 := (hK3.2 w.heap.size (blk_lt hr2) (by omega) (by simp)).trans hr2
  clear hb2 hr2 hI2 hB2 hK3
  go_wp2_with fail
  have hlt3 : w.heap.size < w3.heap.size := blk_lt hr3
  have hbl3 : b < w3.heap.size := blk_lt hb3
  refine (C4.out _ (hI3.alloc _) (below_alloc hB3 _)).mono ?_
  rintro e w4 ⟨rfl, hI4, hB4, hK4⟩
  have P4 := Lib.hid ((P3.out.alloc _).of_keep hK4 (.inl (.inl rfl)))
  have hb4 := (hK4.2 b (by simp; omega) hne (by simp)).trans (blk_alloc hb3 _)
  have hr4 := (hK4.2 w.heap.size (by simp; omega) (by omega) (by simp)).trans (blk_alloc hr3 _)
  have hx4 := (hK4.2 w3.heap.size (by simp) (by omega) (by simp)).trans (heap_alloc_new w3 _)
  have n1 : b ≠ w3.heap.size := by omega
  have n2 : b ≠ w.heap.size := by omega
  have n3 : w.heap.size ≠ w3.heap.size := by omega
  clear hb3 hr3 hI3 hK4
  have hcb := blk_cell hb4 0
  have hcx0 := blk_cell hx4 0
  have hcx1 := blk_cell hx4 1
  have hcx2 := blk_cell hx4 2
  have hcx3 := blk_cell hx4 3
  have hcr0 := blk_cell hr4 0
  have hcr1 := blk_cell hr4 1
  have hcr2 := blk_cell hr4 2
  have hcr3 := blk_cell hr4 3
  have hfb := blk_frozen hb4 0
  have hfx0 := blk_frozen hx4 0
  have hfx1 := blk_frozen hx4 1
  have hfx2 := blk_frozen hx4 2
  have hfx3 := blk_frozen hx4 3
  have hfr0 := blk_frozen hr4 0
  have hfr1 := blk_frozen hr4 1
  have hfr2 := blk_frozen hr4 2
  have hfr3 := blk_frozen hr4 3
  simp at hcb hcx0 hcx1 hcx2 hcx3 hcr0 hcr1 hcr2 hcr3
  generalize hX : w3.heap.size = X at *
  generalize hR : w.heap.size = R at *
  have HB4 := Lib.hid hb4
  have HR4 := Lib.hid hr4
  have HS0 := Lib.hid hB.size
  rw [hR] at HS0
  clear hb4 hr4 hx4
  have he : ((y.1 : Int) == 1) = decide (y.1 = 1) := by rw [Bool.eq_iff_iff]; simp; omega
  go_wp2_with fail
  have hs0 := HS0.out
  have hfin := blk_put (cs' := #[.string ⟨t.1.toArray⟩, .int .i64 v.1, .int .i64 u.1, .bool (decide (y.1 = 1))]) (blk_put (cs' := #[.string ⟨t.1.toArray⟩, .int .i64 v.1, .int .i64 u.1, .bool false]) (blk_put (cs' := #[.string ⟨t.1.toArray⟩, .int .i64 v.1, .int .i64 0, .bool false]) (blk_put (cs' := #[.string ⟨t.1.toArray⟩, .int .i64 0, .int .i64 0, .bool false]) (blk_far (blk_far HR4.out (p := ⟨b, 0, none⟩) (by show R ≠ b; omega) (.int .u8 y.1)) (p := ⟨X, 3, none⟩) n3 (.bool (decide (y.1 = 1)))) 0 (.string ⟨t.1.toArray⟩) rfl) 1 (.int .i64 v.1) rfl) 2 (.int .i64 u.1) rfl) 3 (.bool (decide (y.1 = 1))) rfl
  refine bodyPost_ret (results_cell_row rfl _ _ R 23 _ (0, 0) _ rfl hfin Try.underlying23 rfl (by kernel_rfl)) rfl ?_
  refine ⟨rfl, ?_, ?_, ?_, ?_⟩
  · have k1 : g ≠ R := by omega
    have k2 : g ≠ X := by omega
    have k3 : g ≠ b := fun e => hne e.symm
    iterate 6 refine PRd.IsS225.far ?_ (by first | exact k1 | exact k2 | exact k3) _
    exact hI4
  · iterate 5 refine blk_far ?_ (by first | exact n1 | exact n2) _
    exact blk_set HB4.out 0 _
  · have l2 : w0.heap.size ≤ X := by omega
    iterate 6 refine below_set ?_ (by first | exact hs0 | exact l2 | exact hbl)
    exact hB4
  · have l1 : w.heap.size ≤ R := Nat.le_of_eq hR
    have l2 : w.heap.size ≤ X := by omega
    iterate 6 refine Kept.setCell ?_ (by first | exact .inr l1 | exact .inr l2 | exact .inl (.inr rfl)) _
    exact P4.out
end Go.Proofs.Ytobanhbjkomieaa.RP
