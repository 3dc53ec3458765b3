import Derived.Test.YtobanhbjkomieaaRX
import Derived.Test.YtobanhbjkomieaaEQ
import Derived.Deep.DrawnRows
namespace Go.Proofs.Ytobanhbjkomieaa.RP
open Go.RowKit Go.Proofs.Ytobanhbjkomieaa.PAll Go.Proofs.Ytobanhbjkomieaa.KP Go.Proofs.Ytobanhbjkomieaa.BP Go.Proofs.YtobanhbjkomieaaW.PrintWords Go.Proofs.YtobanhbjkomieaaW.PrintLast Go.Proofs.YtobanhbjkomieaaW.PrintMore
open Go.Proofs.Ytobanhbjkomieaa.PRd (IsS225)
/-! ### the readers' contracts -/
section
variable (s : ByteArray) (hs : s.size ≤ 140737488351232) (g p : Nat) (hp : p ≤ s.size) (e : Int) (w0 w : World)
include hs hp
theorem len_of : s.data.toList.length ≤ 140737488351232 ∧ p ≤ s.data.toList.length := by
  rw [data_length]; exact ⟨hs, hp⟩
theorem rdText_any (most : Nat) (hm : most ≤ 140737488351232) (hI : IsS225 w0 w g s p e) (hB : Below w0.heap.size w0 w) :
    Calls Try.prog 145 #[.pointer (some ⟨g, 0, none⟩), .int .i64 most] w fun r w' => r = .returned (.string ⟨(rdT s.data.toList p e most).1.toArray⟩) ∧ IsS225 w0 w' g s (rdT s.data.toList p e most).2.1 (rdT s.data.toList p e most).2.2 ∧ Below w0.heap.size w0 w' ∧ KeepBut w w' g none := by
  obtain ⟨h1, h2⟩ := len_of s hs p hp
  have h := t_ev s.data.toList h1 p h2 e most hm
  rw [Lib.mk_data] at h
  exact ev_calls h (fun k h => PRd.bits_Reader_Text.calls k g _ _ _ _ _ _ _ _ w0 w hI hB h)
theorem rdVarint_any (most : Nat) (hI : IsS225 w0 w g s p e) (hB : Below w0.heap.size w0 w) :
    Calls Try.prog 146 #[.pointer (some ⟨g, 0, none⟩), .int .u64 most] w fun r w' => r = .returned (.int .u64 (rdV s.data.toList p e most).1) ∧ IsS225 w0 w' g s (rdV s.data.toList p e most).2.1 (rdV s.data.toList p e most).2.2 ∧ Below w0.heap.size w0 w' ∧ KeepBut w w' g none := by
  obtain ⟨h1, h2⟩ := len_of s hs p hp
  have h := v_ev s.data.toList h1 p h2 e most
  rw [Lib.mk_data] at h
  exact ev_calls h (fun k h => PRd.bits_Reader_Varint.calls k g _ _ _ _ _ _ _ _ w0 w hI hB h)
theorem rdByte_any (hI : IsS225 w0 w g s p e) (hB : Below w0.heap.size w0 w) :
    Calls Try.prog 147 #[.pointer (some ⟨g, 0, none⟩)] w fun r w' => r = .returned (.int .u8 (rdB s.data.toList p e).1) ∧ IsS225 w0 w' g s (rdB s.data.toList p e).2.1 (rdB s.data.toList p e).2.2 ∧ Below w0.heap.size w0 w' ∧ KeepBut w w' g none := by
  obtain ⟨h1, h2⟩ := len_of s hs p hp
  have h := b_eq s.data.toList h1 p h2 e
  rw [Lib.mk_data] at h
  exact PRd.bits_Reader_Byte.calls g _ _ _ _ _ _ _ w0 w hI hB h
theorem refRdText_any (most : Nat) (hm : most ≤ 140737488351232) (hI : IsS187 w0 w g s p e) (hB : Below w0.heap.size w0 w) :
    Calls Try.prog 148 #[.pointer (some ⟨g, 0, none⟩), .int .i64 most] w fun r w' => r = .returned (.string ⟨(rdT s.data.toList p e most).1.toArray⟩) ∧ IsS187 w0 w' g s (rdT s.data.toList p e most).2.1 (rdT s.data.toList p e most).2.2 ∧ Below w0.heap.size w0 w' ∧ KeepBut w w' g none := by
  obtain ⟨h1, h2⟩ := len_of s hs p hp
  have h := refT_ev s.data.toList h1 p h2 e most hm
  rw [Lib.mk_data] at h
  exact ev_calls h (fun k h => batonref01_Reader_Text.calls k g _ _ _ _ _ _ _ _ w0 w hI hB h)
theorem refRdVarint_any (most : Nat) (hI : IsS187 w0 w g s p e) (hB : Below w0.heap.size w0 w) :
    Calls Try.prog 149 #[.pointer (some ⟨g, 0, none⟩), .int .u64 most] w fun r w' => r = .returned (.int .u64 (rdV s.data.toList p e most).1) ∧ IsS187 w0 w' g s (rdV s.data.toList p e most).2.1 (rdV s.data.toList p e most).2.2 ∧ Below w0.heap.size w0 w' ∧ KeepBut w w' g none := by
  obtain ⟨h1, h2⟩ := len_of s hs p hp
  have h := refV_ev s.data.toList h1 p h2 e most
  rw [Lib.mk_data] at h
  exact ev_calls h (fun k h => batonref01_Reader_Varint.calls k g _ _ _ _ _ _ _ _ w0 w hI hB h)
theorem refRdByte_any (hI : IsS187 w0 w g s p e) (hB : Below w0.heap.size w0 w) :
    Calls Try.prog 150 #[.pointer (some ⟨g, 0, none⟩)] w fun r w' => r = .returned (.int .u8 (rdB s.data.toList p e).1) ∧ IsS187 w0 w' g s (rdB s.data.toList p e).2.1 (rdB s.data.toList p e).2.2 ∧ Below w0.heap.size w0 w' ∧ KeepBut w w' g none := by
  obtain ⟨h1, h2⟩ := len_of s hs p hp
  have h := refB_eq s.data.toList h1 p h2 e
  rw [Lib.mk_data] at h
  exact batonref01_Reader_Byte.calls g _ _ _ _ _ _ _ w0 w hI hB h
end
/-! ### what a record's bytes say -/
/-- Replica, epoch, time, the byte of 'gone'; place, error. -/
def decAt (s : List UInt8) : List UInt8 × Nat × Nat × Nat × Nat × Int :=
  let t := rdT s 0 0 24
  let v := rdV s t.2.1 t.2.2 1099511627776
  let u := rdV s v.2.1 v.2.2 1125899906842624
  let b := rdB s u.2.1 u.2.2
  (t.1, v.1, u.1, b.1, b.2.1, b.2.2)
set_option maxHeartbeats 1000000 in
set_option maxRecDepth 100000 in
theorem dec2_gen (s : ByteArray) (g b : Nat) (x : Int) (w0 w : World) (t : List UInt8 × Nat × Int) (v u y : Nat × Nat × Int) (hv : v.1 ≤ 1099511627776) (hu : u.1 ≤ 1125899906842624)
    (c1 : ∀ w, IsS225 w0 w g s 0 0 → Below w0.heap.size w0 w → Calls Try.prog 145 #[.pointer (some ⟨g, 0, none⟩), .int .i64 24] w fun r w' => r = .returned (.string ⟨t.1.toArray⟩) ∧ IsS225 w0 w' g s t.2.1 t.2.2 ∧ Below w0.heap.size w0 w' ∧ KeepBut w w' g none)
    (c2 : ∀ w, IsS225 w0 w g s t.2.1 t.2.2 → Below w0.heap.size w0 w → Calls Try.prog 146 #[.pointer (some ⟨g, 0, none⟩), .int .u64 1099511627776] w fun r w' => r = .returned (.int .u64 v.1) ∧ IsS225 w0 w' g s v.2.1 v.2.2 ∧ Below w0.heap.size w0 w' ∧ KeepBut w w' g none)
    (c3 : ∀ w, IsS225 w0 w g s v.2.1 v.2.2 → Below w0.heap.size w0 w → Calls Try.prog 146 #[.pointer (some ⟨g, 0, none⟩), .int .u64 1125899906842624] w fun r w' => r = .returned (.int .u64 u.1) ∧ IsS225 w0 w' g s u.2.1 u.2.2 ∧ Below w0.heap.size w0 w' ∧ KeepBut w w' g none)
    (c4 : ∀ w, IsS225 w0 w g s u.2.1 u.2.2 → Below w0.heap.size w0 w → Calls Try.prog 147 #[.pointer (some ⟨g, 0, none⟩)] w fun r w' => r = .returned (.int .u8 y.1) ∧ IsS225 w0 w' g s y.2.1 y.2.2 ∧ Below w0.heap.size w0 w' ∧ KeepBut w w' g none)
    (hI : IsS225 w0 w g s 0 0) (hB : Below w0.heap.size w0 w)
    (hb : w.heap[b]? = some (.cells #[.int .u8 x] 5 (0, 0))) (hbl : w0.heap.size ≤ b) (hne : b ≠ g) :
    Calls Try.prog 144 #[.pointer (some ⟨g, 0, none⟩), .pointer (some ⟨b, 0, none⟩)] w fun r w' =>
      r = .returned (.agg #[.string ⟨t.1.toArray⟩, .int .i64 v.1, .int .i64 u.1, .bool (decide (y.1 = 1))]) ∧
      IsS225 w0 w' g s y.2.1 y.2.2 ∧ w'.heap[b]? = some (.cells #[.int .u8 y.1] 5 (0, 0)) ∧ Below w0.heap.size w0 w' ∧ Kept w w' (fun k => k = g ∨ k = b) := by
  have C1 := Lib.hid c1
  have C2 := Lib.hid c2
  have C3 := Lib.hid c3
  have C4 := Lib.hid c4
  have hv2 : wrap64 (v.1 : Int) = v.1 := by unfold wrap64; omega
  have hu2 : wrap64 (u.1 : Int) = u.1 := by unfold wrap64; omega
  clear c1 c2 c3 c4
  have hbw : b < w.heap.size := blk_lt hb
  have hgw := PRd.IsS225.lt hI
  go_enter Try.func144, Try.ntmps144
  go_wp2_with fail
  refine (C1.out _ ?_ ?_).mono ?_
  · exact hI.alloc _
  · exact below_alloc hB _
  rintro e w1 ⟨rfl, hI1, hB1, hK1⟩
  have P1 := Lib.hid (((Kept.refl w (fun k => k = g ∨ k = b)).alloc _).of_keep hK1 (.inl (.inl rfl)))
  have hb1 := (hK1.2 b (by simp; omega) hne (by simp)).trans (blk_alloc hb _)
  have hr1 := (hK1.2 w.heap.size (by simp) (by omega) (by simp)).trans (heap_alloc_new w _)
  go_wp2_with fail
  refine (C2.out _ hI1 hB1).mono ?_
  rintro e w2 ⟨rfl, hI2, hB2, hK2⟩
  have P2 := Lib.hid (P1.out.of_keep hK2 (.inl (.inl rfl)))
  have hb2 := (hK2.2 b (blk_lt hb1) hne (by simp)).trans hb1
  have hr2 := (hK2.2 w.heap.size (blk_lt hr1) (by omega) (by simp)).trans hr1
  clear hb1 hr1 hK1 hI1 hB1 hK2
  go_wp2_with fail
  refine (C3.out _ hI2 hB2).mono ?_
  rintro e w3 ⟨rfl, hI3, hB3, hK3⟩
  have P3 := Lib.hid (P2.out.of_keep hK3 (.inl (.inl rfl)))
  have hb3 := (hK3.2 b (blk_lt hb2) hne (by simp)).trans hb2
  have hr3 := (hK3.2 w.heap.size (blk_lt hr2) (by omega) (by simp)).trans hr2
  clear hb2 hr2 hI2 hB2 hK3
  go_wp2_with fail
  have hlt3 : w.heap.size < w3.heap.size := blk_lt hr3
  have hbl3 : b < w3.heap.size := blk_lt hb3
  refine (C4.out _ (hI3.alloc _) (below_alloc hB3 _)).mono ?_
  rintro e w4 ⟨rfl, hI4, hB4, hK4⟩
  have P4 := Lib.hid ((P3.out.alloc _).of_keep hK4 (.inl (.inl rfl)))
  have hb4 := (hK4.2 b (by simp; omega) hne (by simp)).trans (blk_alloc hb3 _)
  have hr4 := (hK4.2 w.heap.size (by simp; omega) (by omega) (by simp)).trans (blk_alloc hr3 _)
  have hx4 := (hK4.2 w3.heap.size (by simp) (by omega) (by simp)).trans (heap_alloc_new w3 _)
  have n1 : b ≠ w3.heap.size := by omega
  have n2 : b ≠ w.heap.size := by omega
  have n3 : w.heap.size ≠ w3.heap.size := by omega
  clear hb3 hr3 hI3 hK4
  have hcb := blk_cell hb4 0
  have hcx0 := blk_cell hx4 0
  have hcx1 := blk_cell hx4 1
  have hcx2 := blk_cell hx4 2
  have hcx3 := blk_cell hx4 3
  have hcr0 := blk_cell hr4 0
  have hcr1 := blk_cell hr4 1
  have hcr2 := blk_cell hr4 2
  have hcr3 := blk_cell hr4 3
  have hfb := blk_frozen hb4 0
  have hfx0 := blk_frozen hx4 0
  have hfx1 := blk_frozen hx4 1
  have hfx2 := blk_frozen hx4 2
  have hfx3 := blk_frozen hx4 3
  have hfr0 := blk_frozen hr4 0
  have hfr1 := blk_frozen hr4 1
  have hfr2 := blk_frozen hr4 2
  have hfr3 := blk_frozen hr4 3
  simp at hcb hcx0 hcx1 hcx2 hcx3 hcr0 hcr1 hcr2 hcr3
  generalize hX : w3.heap.size = X at *
  generalize hR : w.heap.size = R at *
  have HB4 := Lib.hid hb4
  have HR4 := Lib.hid hr4
  have HS0 := Lib.hid hB.size
  rw [hR] at HS0
  clear hb4 hr4 hx4
  have he : ((y.1 : Int) == 1) = decide (y.1 = 1) := by rw [Bool.eq_iff_iff]; simp; omega
  go_wp2_with fail
  have hs0 := HS0.out
  have hfin := blk_put (cs' := #[.string ⟨t.1.toArray⟩, .int .i64 v.1, .int .i64 u.1, .bool (decide (y.1 = 1))]) (blk_put (cs' := #[.string ⟨t.1.toArray⟩, .int .i64 v.1, .int .i64 u.1, .bool false]) (blk_put (cs' := #[.string ⟨t.1.toArray⟩, .int .i64 v.1, .int .i64 0, .bool false]) (blk_put (cs' := #[.string ⟨t.1.toArray⟩, .int .i64 0, .int .i64 0, .bool false]) (blk_far (blk_far HR4.out (p := ⟨b, 0, none⟩) (by show R ≠ b; omega) (.int .u8 y.1)) (p := ⟨X, 3, none⟩) n3 (.bool (decide (y.1 = 1)))) 0 (.string ⟨t.1.toArray⟩) rfl) 1 (.int .i64 v.1) rfl) 2 (.int .i64 u.1) rfl) 3 (.bool (decide (y.1 = 1))) rfl
  refine bodyPost_ret (results_cell_row rfl _ _ R 23 _ (0, 0) _ rfl hfin Try.underlying23 rfl (by kernel_rfl)) rfl ?_
  refine ⟨rfl, ?_, ?_, ?_, ?_⟩
  · have k1 : g ≠ R := by omega
    have k2 : g ≠ X := by omega
    have k3 : g ≠ b := fun e => hne e.symm
    iterate 6 refine PRd.IsS225.far ?_ (by first | exact k1 | exact k2 | exact k3) _
    exact hI4
  · iterate 5 refine blk_far ?_ (by first | exact n1 | exact n2) _
    exact blk_set HB4.out 0 _
  · have l2 : w0.heap.size ≤ X := by omega
    iterate 6 refine below_set ?_ (by first | exact hs0 | exact l2 | exact hbl)
    exact hB4
  · have l1 : w.heap.size ≤ R := Nat.le_of_eq hR
    have l2 : w.heap.size ≤ X := by omega
    iterate 6 refine Kept.setCell ?_ (by first | exact .inr l1 | exact .inr l2 | exact .inl (.inr rfl)) _
    exact P4.out
end Go.Proofs.Ytobanhbjkomieaa.RP
namespace Go.Proofs.Ytobanhbjkomieaa.RP
open Go.RowKit Go.Proofs.Ytobanhbjkomieaa.PAll Go.Proofs.Ytobanhbjkomieaa.KP Go.Proofs.Ytobanhbjkomieaa.BP Go.Proofs.YtobanhbjkomieaaW.PrintWords Go.Proofs.YtobanhbjkomieaaW.PrintLast Go.Proofs.YtobanhbjkomieaaW.PrintMore
open Go.Proofs.Ytobanhbjkomieaa.PRd (IsS225)
set_option linter.unusedSimpArgs false
set_option linter.unusedVariables false
/-! ### decode -/
theorem results_cell_tmp {P : Program} {fn : Func} {p q : Tmp} {ty : TypeId} (h : fn.results = #[.cell p ty, .tmp q]) (tmps : Array Value) (w : World) (g : Nat) (t : TypeId) (cs : Array Value) (fr : Nat × Nat) (d : TypeDesc) (v : Value)
    (hp : tmps.getD p undef = .pointer (some ⟨g, 0, none⟩)) (hq : tmps.getD q undef = v) (hg : w.heap[g]? = some (.cells cs t fr))
    (hu : P.underlying ty = some d) (hd : (match d with | .struct _ | .array _ _ => true | _ => false) = true) (hi : (P.info? ty).map (·.size) = some cs.size) :
    (results fn tmps).run P w = .ok (.tuple #[.agg cs, v]) w := by
  have hp' : tmps[p]?.getD undef = .pointer (some ⟨g, 0, none⟩) := by simpa using hp
  have hq' : tmps[q]?.getD undef = v := by simpa using hq
  simp [results, h, hp', hq', asAddr, run_loadVar_row w g t ty cs fr d hg hu hd hi]
theorem heap_alloc_at (w : World) (o : Obj) {n : Nat} (h : w.heap.size = n) : (w.alloc o).heap[n]? = some o := h ▸ heap_alloc_new w o
theorem blk_put4 {w : World} {g : Nat} {t : TypeId} {a b c d a' b' c' d' : Value} (h : w.heap[g]? = some (.cells #[a, b, c, d] t (0, 0))) :
    ((((w.setCell ⟨g, 0, none⟩ a').setCell ⟨g, 1, none⟩ b').setCell ⟨g, 2, none⟩ c').setCell ⟨g, 3, none⟩ d').heap[g]? = some (.cells #[a', b', c', d'] t (0, 0)) :=
  blk_put (blk_put (blk_put (blk_put h 0 a' rfl) 1 b' rfl) 2 c' rfl) 3 d' rfl
theorem blk_put2 {w : World} {g : Nat} {t : TypeId} {a b a' b' : Value} (h : w.heap[g]? = some (.cells #[a, b] t (0, 0))) :
    ((w.setCell ⟨g, 0, none⟩ a').setCell ⟨g, 1, none⟩ b').heap[g]? = some (.cells #[a', b'] t (0, 0)) :=
  blk_put (blk_put h 0 a' rfl) 1 b' rfl
theorem new_any (s : ByteArray) (w : World) : Calls Try.prog 179 #[.string s] w fun e w' => e = .returned (.pointer (some ⟨w.heap.size, 0, none⟩)) ∧ w' = w.alloc (.cells #[.string s, .int .i64 0, .int .i64 0] 225) := by
  go_enter Try.func179, Try.ntmps179
  go_wp2
  go_ret
  exact ⟨rfl, rfl⟩
theorem rdErr_any (s : ByteArray) (g p : Nat) (e : Int) (w0 w : World) (hI : IsS225 w0 w g s p e) (hB : Below w0.heap.size w0 w) :
    Calls Try.prog 180 #[.pointer (some ⟨g, 0, none⟩)] w fun r w' => r = .returned (.int .i64 e) ∧ IsS225 w0 w' g s p e ∧ Below w0.heap.size w0 w' ∧ KeepBut w w' g none :=
  PRd.bits_Reader_Err.calls g _ _ _ _ _ _ _ w0 w hI hB rfl
theorem rdLeft_any (s : ByteArray) (hs : s.size ≤ 140737488351232) (g p : Nat) (hp : p ≤ s.size) (e : Int) (w0 w : World) (hI : IsS225 w0 w g s p e) (hB : Below w0.heap.size w0 w) :
    Calls Try.prog 181 #[.pointer (some ⟨g, 0, none⟩)] w fun r w' => r = .returned (.int .i64 ((s.size - p : Nat) : Int)) ∧ IsS225 w0 w' g s p e ∧ Below w0.heap.size w0 w' ∧ KeepBut w w' g none := by
  have h : PRd.bits_Reader_Left.f s p e = some (((s.size - p : Nat) : Int), s, (p : Int), e) := by
    unfold PRd.bits_Reader_Left.f
    have : wrap64 ((s.size : Int) - p) = ((s.size - p : Nat) : Int) := by unfold wrap64; omega
    rw [this]
  exact PRd.bits_Reader_Left.calls g _ _ _ _ _ _ _ w0 w hI hB h
/-- A record that is read: its cells. -/
def rcV (r : Rc) : Value := .agg #[.string ⟨r.rep.toArray⟩, .int .i64 r.ep, .int .i64 r.tm, .bool r.gone]
def tnV (t : Tn) : Value := .agg #[.int .i64 t.live, .int .i64 t.ep]
set_option maxHeartbeats 1000000 in
set_option maxRecDepth 100000 in
theorem dec1_any (rep : ByteArray) (hs : rep.size ≤ 140737488351232) (ep tm : Int) (gone : Bool) (b : Nat) (y : Nat) (w : World) (hb : w.heap[b]? = some (.cells #[.int .u8 y] 5 (0, 0))) :
    Calls Try.prog 143 #[.agg #[.string rep, .int .i64 ep, .int .i64 tm, .bool gone], .pointer (some ⟨b, 0, none⟩)] w fun e w' => e = .returned (.bool (decide (y ≤ 1) && mayRec rep ep tm)) ∧ Below w.heap.size w w' := by
  have hm := fun W => recMay_any rep hs ep tm gone W
  have HM := Lib.hid hm
  clear hm
  have hlt := blk_lt hb
  have hc : (w.alloc (.cells #[.string rep, .int .i64 ep, .int .i64 tm, .bool gone] 23)).cell? ⟨b, 0, none⟩ = some (.int .u8 y) := by
    rw [blk_cell (blk_alloc hb _) 0]; rfl
  by_cases h : y ≤ 1
  · have he : decide ((y : Int) ≤ 1) = true := decide_eq_true (by omega)
    have h1 : ((y : Int) ≤ 1) = True := eq_true (by omega)
    rw [decide_eq_true h, Bool.true_and]
    go_enter Try.func143, Try.ntmps143
    go_wp2_with fail
    refine (HM.out _).mono ?_
    rintro e w1 ⟨rfl, hb1⟩
    go_wp2
    go_ret
    exact ⟨rfl, below_next0 ((Below.refl _ _).alloc (Nat.le_refl _) _) hb1⟩
  · have he : decide ((y : Int) ≤ 1) = false := decide_eq_false (by omega)
    have h1 : ((y : Int) ≤ 1) = False := eq_false (by omega)
    rw [decide_eq_false h, Bool.false_and]
    go_enter Try.func143, Try.ntmps143
    go_wp2
    go_ret
    exact ⟨rfl, (Below.refl _ _).alloc (Nat.le_refl _) _⟩
theorem dec2_any (s : ByteArray) (hs : s.size ≤ 140737488351232) (g b : Nat) (x : Int) (w0 w : World) (hI : IsS225 w0 w g s 0 0) (hB : Below w0.heap.size w0 w)
    (hb : w.heap[b]? = some (.cells #[.int .u8 x] 5 (0, 0))) (hbl : w0.heap.size ≤ b) (hne : b ≠ g) :
    Calls Try.prog 144 #[.pointer (some ⟨g, 0, none⟩), .pointer (some ⟨b, 0, none⟩)] w fun r w' =>
      r = .returned (.agg #[.string ⟨(recR s.data.toList 0 0).1.1.toArray⟩, .int .i64 (recR s.data.toList 0 0).1.2.1, .int .i64 (recR s.data.toList 0 0).1.2.2.1, .bool (decide ((recR s.data.toList 0 0).1.2.2.2 = 1))]) ∧
      IsS225 w0 w' g s (recR s.data.toList 0 0).2.1 (recR s.data.toList 0 0).2.2 ∧ w'.heap[b]? = some (.cells #[.int .u8 (recR s.data.toList 0 0).1.2.2.2] 5 (0, 0)) ∧ Below w0.heap.size w0 w' ∧ Kept w w' (fun k => k = g ∨ k = b) := by
  have hl : s.data.toList.length = s.size := data_length s
  have b1 := rdT_bd (s := s.data.toList) (p := 0) (by omega) 0 24
  have b2 := rdV_bd b1.1 (rdT s.data.toList 0 0 24).2.2 1099511627776
  have b3 := rdV_bd b2.1 (rdV s.data.toList (rdT s.data.toList 0 0 24).2.1 (rdT s.data.toList 0 0 24).2.2 1099511627776).2.2 1125899906842624
  have c1 := b1.1
  have c2 := b2.1
  have c3 := b3.1
  rw [hl] at c1 c2 c3
  exact dec2_gen s g b x w0 w (rdT s.data.toList 0 0 24) (rdV s.data.toList (rdT s.data.toList 0 0 24).2.1 (rdT s.data.toList 0 0 24).2.2 1099511627776)
    (rdV s.data.toList (rdV s.data.toList (rdT s.data.toList 0 0 24).2.1 (rdT s.data.toList 0 0 24).2.2 1099511627776).2.1 (rdV s.data.toList (rdT s.data.toList 0 0 24).2.1 (rdT s.data.toList 0 0 24).2.2 1099511627776).2.2 1125899906842624)
    (rdB s.data.toList _ _) b2.2 b3.2
    (fun W h k => rdText_any s hs g 0 (by omega) 0 w0 W 24 (by omega) h k)
    (fun W h k => rdVarint_any s hs g _ c1 _ w0 W 1099511627776 h k)
    (fun W h k => rdVarint_any s hs g _ c2 _ w0 W 1125899906842624 h k)
    (fun W h k => rdByte_any s hs g _ c3 _ w0 W h k)
    hI hB hb hbl hne
/-- What decode says of a record's bytes. -/
def decV (s : List UInt8) : Value := .tuple #[rcV (decRc s).1, .int .i64 (decRc s).2]
def decTV (s : List UInt8) : Value := .tuple #[tnV (decTn s).1, .int .i64 (decTn s).2]
theorem recR_bd {s : List UInt8} : (recR s 0 0).2.1 ≤ s.length ∧ (recR s 0 0).1.1.length ≤ 24 := by
  have b1 := rdT_bd (s := s) (p := 0) (by omega) 0 24
  have b2 := rdV_bd b1.1 (rdT s 0 0 24).2.2 1099511627776
  have b3 := rdV_bd b2.1 (rdV s (rdT s 0 0 24).2.1 (rdT s 0 0 24).2.2 1099511627776).2.2 1125899906842624
  exact ⟨(rdB_bd b3.1 _).1, b1.2⟩
set_option maxHeartbeats 4000000 in
set_option maxRecDepth 100000 in
theorem decodeRec_gen (s : ByteArray) (hs : s.size ≤ 140737488351232) (b p : Nat) (err : Int) (rep : List UInt8) (ep tm y : Nat) (w0 w : World) (hp : p ≤ s.size) (hrep : rep.length ≤ 24)
    (c2 : ∀ g W, IsS225 w0 W g s 0 0 → Below w0.heap.size w0 W → W.heap[b]? = some (.cells #[.int .u8 0] 5 (0, 0)) → b ≠ g →
      Calls Try.prog 144 #[.pointer (some ⟨g, 0, none⟩), .pointer (some ⟨b, 0, none⟩)] W fun r w' =>
        r = .returned (.agg #[.string ⟨rep.toArray⟩, .int .i64 ep, .int .i64 tm, .bool (decide (y = 1))]) ∧ IsS225 w0 w' g s p err ∧ w'.heap[b]? = some (.cells #[.int .u8 y] 5 (0, 0)) ∧ Below w0.heap.size w0 w' ∧ Kept W w' (fun k => k = g ∨ k = b))
    (hB : Below w0.heap.size w0 w) (hb : w.heap[b]? = some (.cells #[.int .u8 0] 5 (0, 0))) (hbl : w0.heap.size ≤ b) (r : Rc) (ec : Int)
    (hr : (r, ec) = if err ≠ 0 then (noRc, err) else if p < s.size ∨ 1 < y ∨ mayRec ⟨rep.toArray⟩ ep tm = false then (noRc, 4) else (⟨rep, ep, tm, decide (y = 1)⟩, 0)) :
    Calls Try.prog 142 #[.string s, .func (.func 143) #[] #[.pointer (some ⟨b, 0, none⟩)], .func (.func 144) #[] #[.pointer (some ⟨b, 0, none⟩)]] w fun e w' =>
      e = .returned (.tuple #[rcV r, .int .i64 ec]) ∧ Below w0.heap.size w0 w' ∧ Kept w w' (fun k => k = b) := by
  have C2 := Lib.hid c2
  have HR := Lib.hid hr
  have HB := Lib.hid hb
  have hblt := blk_lt hb
  clear c2 hr hb
  go_enter Try.func142, Try.ntmps142
  go_wp2_with fail
  refine (new_any _ _).mono ?_
  rintro e w1 ⟨rfl, rfl⟩
  go_wp2_with fail
  refine (C2.out _ _ ?_ ?_ ?_ ?_).mono ?_
  · exact ⟨heap_alloc_at _ _ (by simp), by have := hB.size; omega⟩
  · exact below_alloc (below_alloc (below_alloc hB _) _) _
  · exact blk_alloc (blk_alloc (blk_alloc HB.out _) _) _
  · simp; omega
  rintro e w2 ⟨rfl, hI2, hb2, hB2, hK2⟩
  have hR2 : w2.heap[w.heap.size]? = some (.cells #[.string ⟨#[]⟩, .int .i64 0, .int .i64 0, .bool false] 23 (0, 0)) := blk_kept (blk_alloc (blk_alloc (heap_alloc_new w _) _) _) hK2 (by simp; omega)
  have hZ2 : w2.heap[w.heap.size + 1]? = some (.cells #[.string ⟨#[]⟩, .int .i64 0, .int .i64 0, .bool false] 23 (0, 0)) := blk_kept (blk_alloc (heap_alloc2_new w _ _) _) hK2 (by simp; omega)
  have P2 := Lib.hid (((((Kept.refl w (fun k => k = b)).alloc _).alloc _).alloc _).then_ hK2 (fun k hk => hk.elim (fun h => .inr (by subst h; omega)) .inl))
  have HR2 := Lib.hid hR2
  have HZ2 := Lib.hid hZ2
  have HG2 := Lib.hid hb2
  clear hR2 hZ2 hb2 hK2
  go_wp2_with fail
  refine (rdErr_any s _ p err w0 _ (hI2.alloc _) (below_alloc hB2 _)).mono ?_
  rintro e w3 ⟨rfl, hI3, hB3, hK3⟩
  have hX3 := (hK3.2 w2.heap.size (by simp) (by have := hI2.lt; omega) (by simp)).trans (heap_alloc_new w2 _)
  have hR3 := (hK3.2 w.heap.size (by have := blk_lt HR2.out; simp; omega) (by omega) (by simp)).trans (blk_alloc HR2.out _)
  have hZ3 := (hK3.2 (w.heap.size + 1) (by have := blk_lt HZ2.out; simp; omega) (by omega) (by simp)).trans (blk_alloc HZ2.out _)
  have hG3 := (hK3.2 b (by have := blk_lt HG2.out; simp; omega) (by omega) (by simp)).trans (blk_alloc HG2.out _)
  have z2 := hI2.lt
  have zw := hB.size
  have P3 := Lib.hid ((P2.out.alloc _).of_keep hK3 (.inr (by omega)))
  have HX3 := Lib.hid hX3
  have HR3 := Lib.hid hR3
  have HZ3 := Lib.hid hZ3
  have HG3 := Lib.hid hG3
  clear hX3 hR3 hZ3 hG3 hK3 hI2 hB2 HR2 HZ2 HG2
  generalize hX : w2.heap.size = X at *
  generalize hRr : w.heap.size = R at *
  by_cases he : err = 0
  · subst he
    go_wp2_with fail
    refine (rdLeft_any s hs _ p hp 0 w0 _ hI3 hB3).mono ?_
    rintro e w4 ⟨rfl, hI4, hB4, hK4⟩
    have HX4 := Lib.hid ((hK4.2 X (blk_lt HX3.out) (by omega) (by simp)).trans HX3.out)
    have HR4 := Lib.hid ((hK4.2 R (blk_lt HR3.out) (by omega) (by simp)).trans HR3.out)
    have HZ4 := Lib.hid ((hK4.2 (R + 1) (blk_lt HZ3.out) (by omega) (by simp)).trans HZ3.out)
    have HG4 := Lib.hid ((hK4.2 b (blk_lt HG3.out) (by omega) (by simp)).trans HG3.out)
    have P4 := Lib.hid (P3.out.of_keep hK4 (.inr (by omega)))
    clear hK4 HX3 HR3 HZ3 HG3 hB3
    by_cases hlt : p < s.size
    · have hg1 : ((0 : Int) < ((s.size - p : Nat) : Int)) = True := eq_true (by omega)
      have hg2 : decide ((0 : Int) < ((s.size - p : Nat) : Int)) = true := decide_eq_true (by omega)
      have hg3 : decide (0 < s.size - p) = true := decide_eq_true (by omega)
      have hcz0 := blk_cell HZ4.out 0
      have hcz1 := blk_cell HZ4.out 1
      have hcz2 := blk_cell HZ4.out 2
      have hcz3 := blk_cell HZ4.out 3
      have hcr0 := blk_cell HR4.out 0
      have hcr1 := blk_cell HR4.out 1
      have hcr2 := blk_cell HR4.out 2
      have hcr3 := blk_cell HR4.out 3
      have hfr0 := blk_frozen HR4.out 0
      have hfr1 := blk_frozen HR4.out 1
      have hfr2 := blk_frozen HR4.out 2
      have hfr3 := blk_frozen HR4.out 3
      simp at hcz0 hcz1 hcz2 hcz3 hcr0 hcr1 hcr2 hcr3
      go_wp2_with fail
      refine bodyPost_ret (results_cell_tmp rfl _ _ R 23 _ (0, 0) _ _ rfl rfl (blk_put4 HR4.out) Try.underlying23 rfl (by kernel_rfl)) rfl ?_
      have hr := HR.out
      rw [if_neg (by simp), if_pos (.inl hlt)] at hr
      obtain ⟨rfl, rfl⟩ := Prod.mk.inj hr
      refine ⟨rfl, ?_, ?_⟩
      · iterate 4 refine below_set ?_ zw
        exact hB4
      · have q : w.heap.size ≤ R := Nat.le_of_eq hRr
        iterate 4 refine Kept.setCell ?_ (.inr q) _
        exact P4.out
    · have hg1 : ((0 : Int) < ((s.size - p : Nat) : Int)) = False := eq_false (by omega)
      have hg2 : decide ((0 : Int) < ((s.size - p : Nat) : Int)) = false := decide_eq_false (by omega)
      have hg3 : decide (0 < s.size - p) = false := decide_eq_false (by omega)
      have hd1 := fun W h => dec1_any ⟨rep.toArray⟩ (by rw [size_mk]; omega) ep tm (decide (y = 1)) b y W h
      have HD1 := Lib.hid hd1
      clear hd1
      have hcx0 := blk_cell HX4.out 0
      have hcx1 := blk_cell HX4.out 1
      have hcx2 := blk_cell HX4.out 2
      have hcx3 := blk_cell HX4.out 3
      simp at hcx0 hcx1 hcx2 hcx3
      go_wp2_with fail
      refine (HD1.out _ HG4.out).mono ?_
      rintro e w5 ⟨rfl, hb5⟩
      have hB5 := below_next0 hB4 hb5
      have HR5 := Lib.hid ((hb5.block R (blk_lt HR4.out)).trans HR4.out)
      have HZ5 := Lib.hid ((hb5.block (R + 1) (blk_lt HZ4.out)).trans HZ4.out)
      have HX5 := Lib.hid ((hb5.block X (blk_lt HX4.out)).trans HX4.out)
      have P5 := Lib.hid (P4.out.below hb5)
      clear hb5 HX4 HR4 HZ4 HG4 hcx0 hcx1 hcx2 hcx3
      by_cases hm : (decide (y ≤ 1) && mayRec ⟨rep.toArray⟩ ep tm) = true
      · rw [hm]
        have hcx0 := blk_cell HX5.out 0
        have hcx1 := blk_cell HX5.out 1
        have hcx2 := blk_cell HX5.out 2
        have hcx3 := blk_cell HX5.out 3
        have hcr0 := blk_cell HR5.out 0
        have hcr1 := blk_cell HR5.out 1
        have hcr2 := blk_cell HR5.out 2
        have hcr3 := blk_cell HR5.out 3
        have hfr0 := blk_frozen HR5.out 0
        have hfr1 := blk_frozen HR5.out 1
        have hfr2 := blk_frozen HR5.out 2
        have hfr3 := blk_frozen HR5.out 3
        simp at hcx0 hcx1 hcx2 hcx3 hcr0 hcr1 hcr2 hcr3
        go_wp2_with fail
        refine bodyPost_ret (results_cell_tmp rfl _ _ R 23 _ (0, 0) _ _ rfl rfl (blk_put4 HR5.out) Try.underlying23 rfl (by kernel_rfl)) rfl ?_
        have hr := HR.out
        rw [Bool.and_eq_true, decide_eq_true_eq] at hm
        rw [if_neg (by simp), if_neg (by rw [hm.2]; simp; omega)] at hr
        obtain ⟨rfl, rfl⟩ := Prod.mk.inj hr
        refine ⟨rfl, ?_, ?_⟩
        · iterate 4 refine below_set ?_ zw
          exact hB5
        · have q : w.heap.size ≤ R := Nat.le_of_eq hRr
          iterate 4 refine Kept.setCell ?_ (.inr q) _
          exact P5.out
      · rw [Bool.not_eq_true] at hm
        rw [hm]
        have hcz0 := blk_cell HZ5.out 0
        have hcz1 := blk_cell HZ5.out 1
        have hcz2 := blk_cell HZ5.out 2
        have hcz3 := blk_cell HZ5.out 3
        have hcr0 := blk_cell HR5.out 0
        have hcr1 := blk_cell HR5.out 1
        have hcr2 := blk_cell HR5.out 2
        have hcr3 := blk_cell HR5.out 3
        have hfr0 := blk_frozen HR5.out 0
        have hfr1 := blk_frozen HR5.out 1
        have hfr2 := blk_frozen HR5.out 2
        have hfr3 := blk_frozen HR5.out 3
        simp at hcz0 hcz1 hcz2 hcz3 hcr0 hcr1 hcr2 hcr3
        go_wp2_with fail
        refine bodyPost_ret (results_cell_tmp rfl _ _ R 23 _ (0, 0) _ _ rfl rfl (blk_put4 HR5.out) Try.underlying23 rfl (by kernel_rfl)) rfl ?_
        have hr := HR.out
        rw [Bool.and_eq_false_iff, decide_eq_false_iff_not] at hm
        rw [if_neg (by simp), if_pos (.inr (hm.imp (fun h => by omega) id))] at hr
        obtain ⟨rfl, rfl⟩ := Prod.mk.inj hr
        refine ⟨rfl, ?_, ?_⟩
        · iterate 4 refine below_set ?_ zw
          exact hB5
        · have q : w.heap.size ≤ R := Nat.le_of_eq hRr
          iterate 4 refine Kept.setCell ?_ (.inr q) _
          exact P5.out
  · have he1 : (err == 0) = false := beq_eq_false_iff_ne.2 he
    have hcz0 := blk_cell HZ3.out 0
    have hcz1 := blk_cell HZ3.out 1
    have hcz2 := blk_cell HZ3.out 2
    have hcz3 := blk_cell HZ3.out 3
    have hcr0 := blk_cell HR3.out 0
    have hcr1 := blk_cell HR3.out 1
    have hcr2 := blk_cell HR3.out 2
    have hcr3 := blk_cell HR3.out 3
    have hfr0 := blk_frozen HR3.out 0
    have hfr1 := blk_frozen HR3.out 1
    have hfr2 := blk_frozen HR3.out 2
    have hfr3 := blk_frozen HR3.out 3
    simp at hcz0 hcz1 hcz2 hcz3 hcr0 hcr1 hcr2 hcr3
    go_wp2_with fail
    refine bodyPost_ret (results_cell_tmp rfl _ _ R 23 _ (0, 0) _ _ rfl rfl (blk_put4 HR3.out) Try.underlying23 rfl (by kernel_rfl)) rfl ?_
    have hr := HR.out
    rw [if_pos he] at hr
    obtain ⟨rfl, rfl⟩ := Prod.mk.inj hr
    refine ⟨rfl, ?_, ?_⟩
    · iterate 4 refine below_set ?_ zw
      exact hB3
    · have q : w.heap.size ≤ R := Nat.le_of_eq hRr
      iterate 4 refine Kept.setCell ?_ (.inr q) _
      exact P3.out
theorem decRc_eq (s : List UInt8) : ((decRc s).1, (decRc s).2) = if (recR s 0 0).2.2 ≠ 0 then (noRc, (recR s 0 0).2.2) else if (recR s 0 0).2.1 < s.length ∨ 1 < (recR s 0 0).1.2.2.2 ∨ mayRec ⟨(recR s 0 0).1.1.toArray⟩ (recR s 0 0).1.2.1 (recR s 0 0).1.2.2.1 = false then (noRc, 4)
    else (⟨(recR s 0 0).1.1, (recR s 0 0).1.2.1, (recR s 0 0).1.2.2.1, decide ((recR s 0 0).1.2.2.2 = 1)⟩, 0) := rfl
set_option maxHeartbeats 2000000 in
set_option maxRecDepth 100000 in
theorem decode_any (s : ByteArray) (hs : s.size ≤ 140737488351232) (w : World) :
    Calls Try.prog 75 #[.string s] w fun e w' => e = .returned (decV s.data.toList) ∧ Below w.heap.size w w' := by
  have hl : s.data.toList.length = s.size := data_length s
  have hbd := recR_bd (s := s.data.toList)
  have hp := hbd.1
  rw [hl] at hp
  have hq := decRc_eq s.data.toList
  rw [hl] at hq
  have hc := fun (b : Nat) (W : World) (hB : Below w.heap.size w W) (hb : W.heap[b]? = some (.cells #[.int .u8 0] 5 (0, 0))) (hbl : w.heap.size ≤ b) =>
    decodeRec_gen s hs b (recR s.data.toList 0 0).2.1 (recR s.data.toList 0 0).2.2 (recR s.data.toList 0 0).1.1 (recR s.data.toList 0 0).1.2.1 (recR s.data.toList 0 0).1.2.2.1 (recR s.data.toList 0 0).1.2.2.2 w W hp hbd.2
      (fun g W2 hI hB2 hb2 hne => dec2_any s hs g b 0 w W2 hI hB2 hb2 hbl hne) hB hb hbl _ _ hq
  have HC := Lib.hid hc
  unfold decV
  generalize (decRc s.data.toList).1 = r at *
  generalize (decRc s.data.toList).2 = ec at *
  clear hc hq hp hbd hl
  unfold rcV at *
  go_enter Try.func75, Try.ntmps75
  go_wp2_with fail
  refine (HC.out (w.heap.size + 1) _ ?_ ?_ ?_).mono ?_
  · exact below_alloc (below_alloc (Below.refl _ _) _) _
  · exact heap_alloc2_new _ _ _
  · omega
  rintro e w1 ⟨rfl, hb1, hk1⟩
  have HR1 := Lib.hid (blk_kept (blk_alloc (heap_alloc_new w _) _) hk1 (by omega))
  clear hk1
  have hcr0 := blk_cell HR1.out 0
  have hcr1 := blk_cell HR1.out 1
  have hcr2 := blk_cell HR1.out 2
  have hcr3 := blk_cell HR1.out 3
  have hfr0 := blk_frozen HR1.out 0
  have hfr1 := blk_frozen HR1.out 1
  have hfr2 := blk_frozen HR1.out 2
  have hfr3 := blk_frozen HR1.out 3
  simp at hcr0 hcr1 hcr2 hcr3
  go_wp2_with fail
  refine bodyPost_ret (results_cell_tmp rfl _ _ w.heap.size 23 _ (0, 0) _ _ rfl rfl (blk_put4 HR1.out) Try.underlying23 rfl (by kernel_rfl)) rfl ?_
  refine ⟨rfl, ?_⟩
  iterate 4 refine below_set ?_ (Nat.le_refl _)
  exact hb1
end Go.Proofs.Ytobanhbjkomieaa.RP
namespace Go.Proofs.Ytobanhbjkomieaa.RP
open Go.RowKit Go.Proofs.Ytobanhbjkomieaa.PAll Go.Proofs.Ytobanhbjkomieaa.KP Go.Proofs.Ytobanhbjkomieaa.BP Go.Proofs.YtobanhbjkomieaaW.PrintWords Go.Proofs.YtobanhbjkomieaaW.PrintLast Go.Proofs.YtobanhbjkomieaaW.PrintMore
open Go.Proofs.Ytobanhbjkomieaa.PRd (IsS225)
set_option linter.unusedSimpArgs false
set_option linter.unusedVariables false
/-! ### decode: a tenant's -/
set_option maxHeartbeats 1000000 in
set_option maxRecDepth 100000 in
theorem decT2_gen (s : ByteArray) (g : Nat) (w0 w : World) (v u : Nat × Nat × Int) (hv : v.1 ≤ 1048576) (hu : u.1 ≤ 1099511627776)
    (c1 : ∀ w, IsS225 w0 w g s 0 0 → Below w0.heap.size w0 w → Calls Try.prog 146 #[.pointer (some ⟨g, 0, none⟩), .int .u64 1048576] w fun r w' => r = .returned (.int .u64 v.1) ∧ IsS225 w0 w' g s v.2.1 v.2.2 ∧ Below w0.heap.size w0 w' ∧ KeepBut w w' g none)
    (c2 : ∀ w, IsS225 w0 w g s v.2.1 v.2.2 → Below w0.heap.size w0 w → Calls Try.prog 146 #[.pointer (some ⟨g, 0, none⟩), .int .u64 1099511627776] w fun r w' => r = .returned (.int .u64 u.1) ∧ IsS225 w0 w' g s u.2.1 u.2.2 ∧ Below w0.heap.size w0 w' ∧ KeepBut w w' g none)
    (hI : IsS225 w0 w g s 0 0) (hB : Below w0.heap.size w0 w) :
    Calls Try.prog 152 #[.pointer (some ⟨g, 0, none⟩)] w fun r w' =>
      r = .returned (.agg #[.int .i64 v.1, .int .i64 u.1]) ∧ IsS225 w0 w' g s u.2.1 u.2.2 ∧ Below w0.heap.size w0 w' ∧ Kept w w' (fun k => k = g) := by
  have C1 := Lib.hid c1
  have C2 := Lib.hid c2
  have hv2 : wrap64 (v.1 : Int) = v.1 := by unfold wrap64; omega
  have hu2 : wrap64 (u.1 : Int) = u.1 := by unfold wrap64; omega
  clear c1 c2
  have hgw := PRd.IsS225.lt hI
  have zw := hB.size
  go_enter Try.func152, Try.ntmps152
  go_wp2_with fail
  refine (C1.out _ (hI.alloc _) (below_alloc hB _)).mono ?_
  rintro e w1 ⟨rfl, hI1, hB1, hK1⟩
  have P1 := Lib.hid (((Kept.refl w (fun k => k = g)).alloc _).of_keep hK1 (.inl rfl))
  have HR1 := Lib.hid ((hK1.2 w.heap.size (by simp) (by omega) (by simp)).trans (heap_alloc_new w _))
  clear hK1
  go_wp2_with fail
  refine (C2.out _ hI1 hB1).mono ?_
  rintro e w2 ⟨rfl, hI2, hB2, hK2⟩
  have P2 := Lib.hid (P1.out.of_keep hK2 (.inl rfl))
  have HR2 := Lib.hid ((hK2.2 w.heap.size (blk_lt HR1.out) (by omega) (by simp)).trans HR1.out)
  clear hK2 HR1 hI1 hB1
  have hcr0 := blk_cell HR2.out 0
  have hcr1 := blk_cell HR2.out 1
  have hfr0 := blk_frozen HR2.out 0
  have hfr1 := blk_frozen HR2.out 1
  simp at hcr0 hcr1
  generalize hRr : w.heap.size = R at *
  go_wp2_with fail
  refine bodyPost_ret (results_cell_row rfl _ _ R 25 _ (0, 0) _ rfl (blk_put2 HR2.out) Try.underlying25 rfl (by kernel_rfl)) rfl ?_
  refine ⟨rfl, ?_, ?_, ?_⟩
  · have k1 : g ≠ R := by omega
    iterate 2 refine PRd.IsS225.far ?_ k1 _
    exact hI2
  · iterate 2 refine below_set ?_ zw
    exact hB2
  · have q : w.heap.size ≤ R := Nat.le_of_eq hRr
    iterate 2 refine Kept.setCell ?_ (.inr q) _
    exact P2.out
theorem decT2_any (s : ByteArray) (hs : s.size ≤ 140737488351232) (g : Nat) (w0 w : World) (hI : IsS225 w0 w g s 0 0) (hB : Below w0.heap.size w0 w) :
    Calls Try.prog 152 #[.pointer (some ⟨g, 0, none⟩)] w fun r w' =>
      r = .returned (.agg #[.int .i64 (tenR s.data.toList 0 0).1.1, .int .i64 (tenR s.data.toList 0 0).1.2]) ∧
      IsS225 w0 w' g s (tenR s.data.toList 0 0).2.1 (tenR s.data.toList 0 0).2.2 ∧ Below w0.heap.size w0 w' ∧ Kept w w' (fun k => k = g) := by
  have hl : s.data.toList.length = s.size := data_length s
  have b1 := rdV_bd (s := s.data.toList) (p := 0) (by omega) 0 1048576
  have b2 := rdV_bd b1.1 (rdV s.data.toList 0 0 1048576).2.2 1099511627776
  have c1 := b1.1
  rw [hl] at c1
  exact decT2_gen s g w0 w (rdV s.data.toList 0 0 1048576) (rdV s.data.toList (rdV s.data.toList 0 0 1048576).2.1 (rdV s.data.toList 0 0 1048576).2.2 1099511627776) b1.2 b2.2
    (fun W h k => rdVarint_any s hs g 0 (by omega) 0 w0 W 1048576 h k)
    (fun W h k => rdVarint_any s hs g _ c1 _ w0 W 1099511627776 h k) hI hB
theorem tenR_bd {s : List UInt8} : (tenR s 0 0).2.1 ≤ s.length := by
  have b1 := rdV_bd (s := s) (p := 0) (by omega) 0 1048576
  exact (rdV_bd b1.1 (rdV s 0 0 1048576).2.2 1099511627776).1
set_option maxHeartbeats 4000000 in
set_option maxRecDepth 100000 in
theorem decodeTenG_gen (s : ByteArray) (hs : s.size ≤ 140737488351232) (p : Nat) (err : Int) (live ep : Nat) (w0 w : World) (hp : p ≤ s.size)
    (c2 : ∀ g W, IsS225 w0 W g s 0 0 → Below w0.heap.size w0 W →
      Calls Try.prog 152 #[.pointer (some ⟨g, 0, none⟩)] W fun r w' =>
        r = .returned (.agg #[.int .i64 live, .int .i64 ep]) ∧ IsS225 w0 w' g s p err ∧ Below w0.heap.size w0 w' ∧ Kept W w' (fun k => k = g))
    (hB : Below w0.heap.size w0 w) (r : Tn) (ec : Int)
    (hr : (r, ec) = if err ≠ 0 then (noTn, err) else if p < s.size ∨ mayTen live ep = false then (noTn, 4) else (⟨live, ep⟩, 0)) :
    Calls Try.prog 151 #[.string s, .func (.func 87) #[] #[], .func (.func 152) #[] #[]] w fun e w' =>
      e = .returned (.tuple #[tnV r, .int .i64 ec]) ∧ Below w0.heap.size w0 w' ∧ Kept w w' (fun _ => False) := by
  have C2 := Lib.hid c2
  have HR := Lib.hid hr
  clear c2 hr
  have zw := hB.size
  go_enter Try.func151, Try.ntmps151
  go_wp2_with fail
  refine (new_any _ _).mono ?_
  rintro e w1 ⟨rfl, rfl⟩
  go_wp2_with fail
  refine (C2.out _ _ ?_ ?_).mono ?_
  · exact ⟨heap_alloc_at _ _ (by simp), by have := hB.size; omega⟩
  · exact below_alloc (below_alloc (below_alloc hB _) _) _
  rintro e w2 ⟨rfl, hI2, hB2, hK2⟩
  have hR2 : w2.heap[w.heap.size]? = some (.cells #[.int .i64 0, .int .i64 0] 25 (0, 0)) := blk_kept (blk_alloc (blk_alloc (heap_alloc_new w _) _) _) hK2 (by show ¬ (w.heap.size = _); omega)
  have hZ2 : w2.heap[w.heap.size + 1]? = some (.cells #[.int .i64 0, .int .i64 0] 25 (0, 0)) := blk_kept (blk_alloc (heap_alloc2_new w _ _) _) hK2 (by show ¬ (w.heap.size + 1 = _); omega)
  have P2 := Lib.hid (((((Kept.refl w (fun _ => False)).alloc _).alloc _).alloc _).then_ hK2 (fun k hk => .inr (by subst hk; omega)))
  have HR2 := Lib.hid hR2
  have HZ2 := Lib.hid hZ2
  clear hR2 hZ2 hK2
  go_wp2_with fail
  refine (rdErr_any s _ p err w0 _ (hI2.alloc _) (below_alloc hB2 _)).mono ?_
  rintro e w3 ⟨rfl, hI3, hB3, hK3⟩
  have z2 := hI2.lt
  have hX3 := (hK3.2 w2.heap.size (by simp) (by have := hI2.lt; omega) (by simp)).trans (heap_alloc_new w2 _)
  have hR3 := (hK3.2 w.heap.size (by have := blk_lt HR2.out; simp; omega) (by omega) (by simp)).trans (blk_alloc HR2.out _)
  have hZ3 := (hK3.2 (w.heap.size + 1) (by have := blk_lt HZ2.out; simp; omega) (by omega) (by simp)).trans (blk_alloc HZ2.out _)
  have P3 := Lib.hid ((P2.out.alloc _).of_keep hK3 (.inr (by omega)))
  have HX3 := Lib.hid hX3
  have HR3 := Lib.hid hR3
  have HZ3 := Lib.hid hZ3
  clear hX3 hR3 hZ3 hK3 hI2 hB2 HR2 HZ2
  generalize hX : w2.heap.size = X at *
  generalize hRr : w.heap.size = R at *
  by_cases he : err = 0
  · subst he
    go_wp2_with fail
    refine (rdLeft_any s hs _ p hp 0 w0 _ hI3 hB3).mono ?_
    rintro e w4 ⟨rfl, hI4, hB4, hK4⟩
    have HX4 := Lib.hid ((hK4.2 X (blk_lt HX3.out) (by omega) (by simp)).trans HX3.out)
    have HR4 := Lib.hid ((hK4.2 R (blk_lt HR3.out) (by omega) (by simp)).trans HR3.out)
    have HZ4 := Lib.hid ((hK4.2 (R + 1) (blk_lt HZ3.out) (by omega) (by simp)).trans HZ3.out)
    have P4 := Lib.hid (P3.out.of_keep hK4 (.inr (by omega)))
    clear hK4 HX3 HR3 HZ3 hB3
    by_cases hlt : p < s.size
    · have hg1 : ((0 : Int) < ((s.size - p : Nat) : Int)) = True := eq_true (by omega)
      have hg2 : decide ((0 : Int) < ((s.size - p : Nat) : Int)) = true := decide_eq_true (by omega)
      have hg3 : decide (0 < s.size - p) = true := decide_eq_true (by omega)
      have hcz0 := blk_cell HZ4.out 0
      have hcz1 := blk_cell HZ4.out 1
      have hcr0 := blk_cell HR4.out 0
      have hcr1 := blk_cell HR4.out 1
      have hfr0 := blk_frozen HR4.out 0
      have hfr1 := blk_frozen HR4.out 1
      simp at hcz0 hcz1 hcr0 hcr1
      go_wp2_with fail
      refine bodyPost_ret (results_cell_tmp rfl _ _ R 25 _ (0, 0) _ _ rfl rfl (blk_put2 HR4.out) Try.underlying25 rfl (by kernel_rfl)) rfl ?_
      have hr := HR.out
      rw [if_neg (by simp), if_pos (.inl hlt)] at hr
      obtain ⟨rfl, rfl⟩ := Prod.mk.inj hr
      refine ⟨rfl, ?_, ?_⟩
      · iterate 2 refine below_set ?_ zw
        exact hB4
      · have q : w.heap.size ≤ R := Nat.le_of_eq hRr
        iterate 2 refine Kept.setCell ?_ (.inr q) _
        exact P4.out
    · have hg1 : ((0 : Int) < ((s.size - p : Nat) : Int)) = False := eq_false (by omega)
      have hg2 : decide ((0 : Int) < ((s.size - p : Nat) : Int)) = false := decide_eq_false (by omega)
      have hg3 : decide (0 < s.size - p) = false := decide_eq_false (by omega)
      have hcx0 := blk_cell HX4.out 0
      have hcx1 := blk_cell HX4.out 1
      simp at hcx0 hcx1
      go_wp2_with fail
      refine (tenMay_any live ep _).mono ?_
      rintro e w5 ⟨rfl, hb5⟩
      have hB5 := below_next0 hB4 hb5
      have HR5 := Lib.hid ((hb5.block R (blk_lt HR4.out)).trans HR4.out)
      have HZ5 := Lib.hid ((hb5.block (R + 1) (blk_lt HZ4.out)).trans HZ4.out)
      have HX5 := Lib.hid ((hb5.block X (blk_lt HX4.out)).trans HX4.out)
      have P5 := Lib.hid (P4.out.below hb5)
      clear hb5 HX4 HR4 HZ4 hcx0 hcx1
      by_cases hm : mayTen live ep = true
      · rw [hm]
        have hcx0 := blk_cell HX5.out 0
        have hcx1 := blk_cell HX5.out 1
        have hcr0 := blk_cell HR5.out 0
        have hcr1 := blk_cell HR5.out 1
        have hfr0 := blk_frozen HR5.out 0
        have hfr1 := blk_frozen HR5.out 1
        simp at hcx0 hcx1 hcr0 hcr1
        go_wp2_with fail
        refine bodyPost_ret (results_cell_tmp rfl _ _ R 25 _ (0, 0) _ _ rfl rfl (blk_put2 HR5.out) Try.underlying25 rfl (by kernel_rfl)) rfl ?_
        have hr := HR.out
        rw [if_neg (by simp), if_neg (by rw [hm]; simp; omega)] at hr
        obtain ⟨rfl, rfl⟩ := Prod.mk.inj hr
        refine ⟨rfl, ?_, ?_⟩
        · iterate 2 refine below_set ?_ zw
          exact hB5
        · have q : w.heap.size ≤ R := Nat.le_of_eq hRr
          iterate 2 refine Kept.setCell ?_ (.inr q) _
          exact P5.out
      · rw [Bool.not_eq_true] at hm
        rw [hm]
        have hcz0 := blk_cell HZ5.out 0
        have hcz1 := blk_cell HZ5.out 1
        have hcr0 := blk_cell HR5.out 0
        have hcr1 := blk_cell HR5.out 1
        have hfr0 := blk_frozen HR5.out 0
        have hfr1 := blk_frozen HR5.out 1
        simp at hcz0 hcz1 hcr0 hcr1
        go_wp2_with fail
        refine bodyPost_ret (results_cell_tmp rfl _ _ R 25 _ (0, 0) _ _ rfl rfl (blk_put2 HR5.out) Try.underlying25 rfl (by kernel_rfl)) rfl ?_
        have hr := HR.out
        rw [if_neg (by simp), if_pos (.inr hm)] at hr
        obtain ⟨rfl, rfl⟩ := Prod.mk.inj hr
        refine ⟨rfl, ?_, ?_⟩
        · iterate 2 refine below_set ?_ zw
          exact hB5
        · have q : w.heap.size ≤ R := Nat.le_of_eq hRr
          iterate 2 refine Kept.setCell ?_ (.inr q) _
          exact P5.out
  · have he1 : (err == 0) = false := beq_eq_false_iff_ne.2 he
    have hcz0 := blk_cell HZ3.out 0
    have hcz1 := blk_cell HZ3.out 1
    have hcr0 := blk_cell HR3.out 0
    have hcr1 := blk_cell HR3.out 1
    have hfr0 := blk_frozen HR3.out 0
    have hfr1 := blk_frozen HR3.out 1
    simp at hcz0 hcz1 hcr0 hcr1
    go_wp2_with fail
    refine bodyPost_ret (results_cell_tmp rfl _ _ R 25 _ (0, 0) _ _ rfl rfl (blk_put2 HR3.out) Try.underlying25 rfl (by kernel_rfl)) rfl ?_
    have hr := HR.out
    rw [if_pos he] at hr
    obtain ⟨rfl, rfl⟩ := Prod.mk.inj hr
    refine ⟨rfl, ?_, ?_⟩
    · iterate 2 refine below_set ?_ zw
      exact hB3
    · have q : w.heap.size ≤ R := Nat.le_of_eq hRr
      iterate 2 refine Kept.setCell ?_ (.inr q) _
      exact P3.out
theorem decTn_eq (s : List UInt8) : ((decTn s).1, (decTn s).2) = if (tenR s 0 0).2.2 ≠ 0 then (noTn, (tenR s 0 0).2.2) else if (tenR s 0 0).2.1 < s.length ∨ mayTen (tenR s 0 0).1.1 (tenR s 0 0).1.2 = false then (noTn, 4)
    else (⟨(tenR s 0 0).1.1, (tenR s 0 0).1.2⟩, 0) := rfl
set_option maxHeartbeats 2000000 in
set_option maxRecDepth 100000 in
theorem decodeTen_any (s : ByteArray) (hs : s.size ≤ 140737488351232) (w : World) :
    Calls Try.prog 77 #[.string s] w fun e w' => e = .returned (decTV s.data.toList) ∧ Below w.heap.size w w' := by
  have hl : s.data.toList.length = s.size := data_length s
  have hp := tenR_bd (s := s.data.toList)
  rw [hl] at hp
  have hq := decTn_eq s.data.toList
  rw [hl] at hq
  have hc := fun (W : World) (hB : Below w.heap.size w W) =>
    decodeTenG_gen s hs (tenR s.data.toList 0 0).2.1 (tenR s.data.toList 0 0).2.2 (tenR s.data.toList 0 0).1.1 (tenR s.data.toList 0 0).1.2 w W hp
      (fun g W2 hI hB2 => decT2_any s hs g w W2 hI hB2) hB _ _ hq
  have HC := Lib.hid hc
  unfold decTV
  generalize (decTn s.data.toList).1 = r at *
  generalize (decTn s.data.toList).2 = ec at *
  clear hc hq hp hl
  unfold tnV at *
  go_enter Try.func77, Try.ntmps77
  go_wp2_with fail
  refine (HC.out _ (below_alloc (Below.refl _ _) _)).mono ?_
  rintro e w1 ⟨rfl, hb1, hk1⟩
  have HR1 := Lib.hid (blk_kept (heap_alloc_new w _) hk1 (fun h => h))
  clear hk1
  have hcr0 := blk_cell HR1.out 0
  have hcr1 := blk_cell HR1.out 1
  have hfr0 := blk_frozen HR1.out 0
  have hfr1 := blk_frozen HR1.out 1
  simp at hcr0 hcr1
  go_wp2_with fail
  refine bodyPost_ret (results_cell_tmp rfl _ _ w.heap.size 25 _ (0, 0) _ _ rfl rfl (blk_put2 HR1.out) Try.underlying25 rfl (by kernel_rfl)) rfl ?_
  refine ⟨rfl, ?_⟩
  iterate 2 refine below_set ?_ (Nat.le_refl _)
  exact hb1
end Go.Proofs.Ytobanhbjkomieaa.RP
namespace Go.Proofs.Ytobanhbjkomieaa.RP
open Go.RowKit Go.Proofs.Ytobanhbjkomieaa.PAll Go.Proofs.Ytobanhbjkomieaa.KP Go.Proofs.Ytobanhbjkomieaa.BP Go.Proofs.YtobanhbjkomieaaW.PrintWords Go.Proofs.YtobanhbjkomieaaW.PrintLast Go.Proofs.YtobanhbjkomieaaW.PrintMore
set_option linter.unusedSimpArgs false
set_option linter.unusedVariables false
/-! ### the reference's Decode -/
set_option maxHeartbeats 8000000 in
set_option maxRecDepth 100000 in
theorem refDecode_gen (s : ByteArray) (hs : s.size ≤ 140737488351232) (w : World) (t : List UInt8 × Nat × Int) (v u y : Nat × Nat × Int) (ht : t.1.length ≤ 24) (hv : v.1 ≤ 1099511627776) (hu : u.1 ≤ 1125899906842624) (hp : y.2.1 ≤ s.size)
    (c1 : ∀ W, IsS187 w W (w.heap.size + 1) s 0 0 → Below w.heap.size w W → Calls Try.prog 148 #[.pointer (some ⟨w.heap.size + 1, 0, none⟩), .int .i64 24] W fun r w' => r = .returned (.string ⟨t.1.toArray⟩) ∧ IsS187 w w' (w.heap.size + 1) s t.2.1 t.2.2 ∧ Below w.heap.size w w' ∧ KeepBut W w' (w.heap.size + 1) none)
    (c2 : ∀ W, IsS187 w W (w.heap.size + 1) s t.2.1 t.2.2 → Below w.heap.size w W → Calls Try.prog 149 #[.pointer (some ⟨w.heap.size + 1, 0, none⟩), .int .u64 1099511627776] W fun r w' => r = .returned (.int .u64 v.1) ∧ IsS187 w w' (w.heap.size + 1) s v.2.1 v.2.2 ∧ Below w.heap.size w w' ∧ KeepBut W w' (w.heap.size + 1) none)
    (c3 : ∀ W, IsS187 w W (w.heap.size + 1) s v.2.1 v.2.2 → Below w.heap.size w W → Calls Try.prog 149 #[.pointer (some ⟨w.heap.size + 1, 0, none⟩), .int .u64 1125899906842624] W fun r w' => r = .returned (.int .u64 u.1) ∧ IsS187 w w' (w.heap.size + 1) s u.2.1 u.2.2 ∧ Below w.heap.size w w' ∧ KeepBut W w' (w.heap.size + 1) none)
    (c4 : ∀ W, IsS187 w W (w.heap.size + 1) s u.2.1 u.2.2 → Below w.heap.size w W → Calls Try.prog 150 #[.pointer (some ⟨w.heap.size + 1, 0, none⟩)] W fun r w' => r = .returned (.int .u8 y.1) ∧ IsS187 w w' (w.heap.size + 1) s y.2.1 y.2.2 ∧ Below w.heap.size w w' ∧ KeepBut W w' (w.heap.size + 1) none)
    (r : Rc) (ec : Int)
    (hr : (r, ec) = if y.2.2 ≠ 0 then (noRc, y.2.2) else if y.2.1 < s.size ∨ 1 < y.1 ∨ mayRec ⟨t.1.toArray⟩ v.1 u.1 = false then (noRc, 4) else (⟨t.1, v.1, u.1, decide (y.1 = 1)⟩, 0)) :
    Calls Try.prog 76 #[.string s] w fun e w' => e = .returned (.tuple #[rcV r, .int .i64 ec]) ∧ Below w.heap.size w w' := by
  have C1 := Lib.hid c1
  have C2 := Lib.hid c2
  have C3 := Lib.hid c3
  have C4 := Lib.hid c4
  have HR := Lib.hid hr
  have hv2 : wrap64 (v.1 : Int) = v.1 := by unfold wrap64; omega
  have hu2 : wrap64 (u.1 : Int) = u.1 := by unfold wrap64; omega
  clear c1 c2 c3 c4 hr
  go_enter Try.func76, Try.ntmps76
  go_wp2_with fail
  refine (C1.out _ ?_ ?_).mono ?_
  · exact ⟨blk_alloc (heap_alloc2_new w _ _) _, by omega⟩
  · exact below_alloc (below_alloc (below_alloc (Below.refl _ _) _) _) _
  rintro e w1 ⟨rfl, hI1, hB1, hK1⟩
  have HX1 := Lib.hid ((hK1.2 (w.heap.size + 2) (by simp) (by omega) (by simp)).trans (heap_alloc_at _ _ (by simp)))
  have HR1 := Lib.hid ((hK1.2 w.heap.size (by simp; omega) (by omega) (by simp)).trans (blk_alloc (blk_alloc (heap_alloc_new w _) _) _))
  have ne1 : w.heap.size + 1 ≠ w.heap.size + 2 := by omega
  clear hK1
  generalize hX : w.heap.size + 2 = X at *
  generalize hG : w.heap.size + 1 = G at *
  generalize hRr : w.heap.size = R at *
  have hcx0 := blk_cell HX1.out 0
  have hfx0 := blk_frozen HX1.out 0
  simp at hcx0
  go_wp2_with fail
  refine (C2.out _ ?_ ?_).mono ?_
  · exact hI1.far ne1 _
  · exact hB1.setCell (p := ⟨X, 0, none⟩) (by show R ≤ X; omega) _
  rintro e w2 ⟨rfl, hI2, hB2, hK2⟩
  have HX2 := Lib.hid ((hK2.2 X (by have := blk_lt HX1.out; simpa using this) (by omega) (by simp)).trans (blk_put (cs' := #[.string ⟨t.1.toArray⟩, .int .i64 0, .int .i64 0, .bool false]) HX1.out 0 (.string ⟨t.1.toArray⟩) rfl))
  have HR2 := Lib.hid ((hK2.2 R (by have := blk_lt HR1.out; simpa using this) (by omega) (by simp)).trans (blk_far HR1.out (p := ⟨X, 0, none⟩) (by show R ≠ X; omega) _))
  clear hK2 HX1 HR1 hI1 hB1
  clear hcx0 hfx0
  have hcx0 := blk_cell HX2.out 0
  have hcx1 := blk_cell HX2.out 1
  have hfx0 := blk_frozen HX2.out 0
  have hfx1 := blk_frozen HX2.out 1
  simp at hcx0 hcx1
  go_wp2_with fail
  refine (C3.out _ ?_ ?_).mono ?_
  · exact hI2.far ne1 _
  · exact hB2.setCell (p := ⟨X, 1, none⟩) (by show R ≤ X; omega) _
  rintro e w3 ⟨rfl, hI3, hB3, hK3⟩
  have HX3 := Lib.hid ((hK3.2 X (by have := blk_lt HX2.out; simpa using this) (by omega) (by simp)).trans (blk_put (cs' := #[.string ⟨t.1.toArray⟩, .int .i64 v.1, .int .i64 0, .bool false]) HX2.out 1 (.int .i64 v.1) rfl))
  have HR3 := Lib.hid ((hK3.2 R (by have := blk_lt HR2.out; simpa using this) (by omega) (by simp)).trans (blk_far HR2.out (p := ⟨X, 1, none⟩) (by show R ≠ X; omega) _))
  clear hK3 HX2 HR2 hI2 hB2
  clear hcx0 hcx1 hfx0 hfx1
  have hcx0 := blk_cell HX3.out 0
  have hcx1 := blk_cell HX3.out 1
  have hcx2 := blk_cell HX3.out 2
  have hfx0 := blk_frozen HX3.out 0
  have hfx1 := blk_frozen HX3.out 1
  have hfx2 := blk_frozen HX3.out 2
  simp at hcx0 hcx1 hcx2
  go_wp2_with fail
  refine (C4.out _ ?_ ?_).mono ?_
  · exact hI3.far ne1 _
  · exact hB3.setCell (p := ⟨X, 2, none⟩) (by show R ≤ X; omega) _
  rintro e w4 ⟨rfl, hI4, hB4, hK4⟩
  have HX4 := Lib.hid ((hK4.2 X (by have := blk_lt HX3.out; simpa using this) (by omega) (by simp)).trans (blk_put (cs' := #[.string ⟨t.1.toArray⟩, .int .i64 v.1, .int .i64 u.1, .bool false]) HX3.out 2 (.int .i64 u.1) rfl))
  have HR4 := Lib.hid ((hK4.2 R (by have := blk_lt HR3.out; simpa using this) (by omega) (by simp)).trans (blk_far HR3.out (p := ⟨X, 2, none⟩) (by show R ≠ X; omega) _))
  have HG4 := Lib.hid hI4.1
  clear hK4 HX3 HR3 hI3 hB3 hI4
  clear hcx0 hcx1 hcx2 hfx0 hfx1 hfx2
  have hcx0 := blk_cell HX4.out 0
  have hcx1 := blk_cell HX4.out 1
  have hcx2 := blk_cell HX4.out 2
  have hcx3 := blk_cell HX4.out 3
  have hfx0 := blk_frozen HX4.out 0
  have hfx1 := blk_frozen HX4.out 1
  have hfx2 := blk_frozen HX4.out 2
  have hfx3 := blk_frozen HX4.out 3
  have hcr0 := blk_cell HR4.out 0
  have hcr1 := blk_cell HR4.out 1
  have hcr2 := blk_cell HR4.out 2
  have hcr3 := blk_cell HR4.out 3
  have hfr0 := blk_frozen HR4.out 0
  have hfr1 := blk_frozen HR4.out 1
  have hfr2 := blk_frozen HR4.out 2
  have hfr3 := blk_frozen HR4.out 3
  have hcg0 := blk_cell HG4.out 0
  have hcg1 := blk_cell HG4.out 1
  have hcg2 := blk_cell HG4.out 2
  simp at hcx0 hcx1 hcx2 hcx3 hcr0 hcr1 hcr2 hcr3 hcg0 hcg1 hcg2
  have ne2 : R ≠ X := by omega
  have ne3 : G ≠ R := by omega
  have he : ((y.1 : Int) == 1) = decide (y.1 = 1) := by rw [Bool.eq_iff_iff]; simp; omega
  obtain ⟨yb, yp, ye⟩ := y
  simp only at *
  by_cases h0 : ye = 0
  · subst h0
    by_cases h1 : 1 < yb
    · have k1 : ((1 : Int) < (yb : Int)) = True := eq_true (by omega)
      have k2 : decide ((1 : Int) < (yb : Int)) = true := decide_eq_true (by omega)
      have k3 : decide (1 < yb) = true := decide_eq_true h1
      go_wp2_with fail
      refine bodyPost_ret (results_cell_tmp rfl _ _ R 23 _ (0, 0) _ _ rfl rfl (blk_put4 (blk_far HR4.out (p := ⟨X, 3, none⟩) ne2 _)) Try.underlying23 rfl (by kernel_rfl)) rfl ?_
      have hr := HR.out
      rw [if_neg (by simp), if_pos (.inr (.inl h1))] at hr
      obtain ⟨rfl, rfl⟩ := Prod.mk.inj hr
      refine ⟨rfl, ?_⟩
      rw [hRr]
      iterate 4 refine Below.setCell ?_ (Nat.le_refl R) _
      exact hB4.setCell (p := ⟨X, 3, none⟩) (by show R ≤ X; omega) _
    · have k1 : ((1 : Int) < (yb : Int)) = False := eq_false (by omega)
      have k2 : decide ((1 : Int) < (yb : Int)) = false := decide_eq_false (by omega)
      have k3 : decide (1 < yb) = false := decide_eq_false h1
      by_cases h2 : yp < s.size
      · have j1 : ((yp : Int) < (s.size : Int)) = True := eq_true (by omega)
        have j2 : decide ((yp : Int) < (s.size : Int)) = true := decide_eq_true (by omega)
        have j3 : decide (yp < s.size) = true := decide_eq_true h2
        go_wp2_with fail
        refine bodyPost_ret (results_cell_tmp rfl _ _ R 23 _ (0, 0) _ _ rfl rfl (blk_put4 (blk_far HR4.out (p := ⟨X, 3, none⟩) ne2 _)) Try.underlying23 rfl (by kernel_rfl)) rfl ?_
        have hr := HR.out
        rw [if_neg (by simp), if_pos (.inl h2)] at hr
        obtain ⟨rfl, rfl⟩ := Prod.mk.inj hr
        refine ⟨rfl, ?_⟩
        rw [hRr]
        iterate 4 refine Below.setCell ?_ (Nat.le_refl R) _
        exact hB4.setCell (p := ⟨X, 3, none⟩) (by show R ≤ X; omega) _
      · have j1 : ((yp : Int) < (s.size : Int)) = False := eq_false (by omega)
        have j2 : decide ((yp : Int) < (s.size : Int)) = false := decide_eq_false (by omega)
        have j3 : decide (yp < s.size) = false := decide_eq_false h2
        have hm := fun W => refRecMay_any ⟨t.1.toArray⟩ (by rw [size_mk]; omega) v.1 u.1 (decide (yb = 1)) W
        have HM := Lib.hid hm
        clear hm
        go_wp2_with fail
        refine (HM.out _).mono ?_
        rintro e w5 ⟨rfl, hb5⟩
        have hB5 := (hB4.setCell (p := ⟨X, 3, none⟩) (by show R ≤ X; omega) (.bool (decide (yb = 1)))).trans (hb5.mono (by have := blk_lt HR4.out; simp; omega))
        have HX5 := Lib.hid ((hb5.block X (by have := blk_lt HX4.out; simpa using this)).trans (blk_put (cs' := #[.string ⟨t.1.toArray⟩, .int .i64 v.1, .int .i64 u.1, .bool (decide (yb = 1))]) HX4.out 3 (.bool (decide (yb = 1))) rfl))
        have HR5 := Lib.hid ((hb5.block R (by have := blk_lt HR4.out; simpa using this)).trans (blk_far HR4.out (p := ⟨X, 3, none⟩) ne2 _))
        clear hb5 HX4 HR4
        clear hcx0 hcx1 hcx2 hcx3 hfx0 hfx1 hfx2 hfx3
        clear hcr0 hcr1 hcr2 hcr3 hfr0 hfr1 hfr2 hfr3
        have hcx0 := blk_cell HX5.out 0
        have hcx1 := blk_cell HX5.out 1
        have hcx2 := blk_cell HX5.out 2
        have hcx3 := blk_cell HX5.out 3
        have hcr0 := blk_cell HR5.out 0
        have hcr1 := blk_cell HR5.out 1
        have hcr2 := blk_cell HR5.out 2
        have hcr3 := blk_cell HR5.out 3
        have hfr0 := blk_frozen HR5.out 0
        have hfr1 := blk_frozen HR5.out 1
        have hfr2 := blk_frozen HR5.out 2
        have hfr3 := blk_frozen HR5.out 3
        simp at hcx0 hcx1 hcx2 hcx3 hcr0 hcr1 hcr2 hcr3
        by_cases h3 : mayRec ⟨t.1.toArray⟩ v.1 u.1 = true
        · rw [h3]
          go_wp2_with fail
          refine bodyPost_ret (results_cell_tmp rfl _ _ R 23 _ (0, 0) _ _ rfl rfl (blk_put4 HR5.out) Try.underlying23 rfl (by kernel_rfl)) rfl ?_
          have hr := HR.out
          rw [if_neg (by simp), if_neg (by rw [h3]; simp; omega)] at hr
          obtain ⟨rfl, rfl⟩ := Prod.mk.inj hr
          refine ⟨rfl, ?_⟩
          rw [hRr]
          iterate 4 refine Below.setCell ?_ (Nat.le_refl R) _
          exact hB5
        · rw [Bool.not_eq_true] at h3
          rw [h3]
          go_wp2_with fail
          refine bodyPost_ret (results_cell_tmp rfl _ _ R 23 _ (0, 0) _ _ rfl rfl (blk_put4 HR5.out) Try.underlying23 rfl (by kernel_rfl)) rfl ?_
          have hr := HR.out
          rw [if_neg (by simp), if_pos (.inr (.inr h3))] at hr
          obtain ⟨rfl, rfl⟩ := Prod.mk.inj hr
          refine ⟨rfl, ?_⟩
          rw [hRr]
          iterate 4 refine Below.setCell ?_ (Nat.le_refl R) _
          exact hB5
  · have h1 : (ye == 0) = false := beq_eq_false_iff_ne.2 h0
    go_wp2_with fail
    go_region
    go_wp2_with fail
    refine bodyPost_ret (results_cell_tmp rfl _ _ R 23 _ (0, 0) _ _ rfl rfl (blk_put4 (blk_far HR4.out (p := ⟨X, 3, none⟩) ne2 _)) Try.underlying23 rfl (by kernel_rfl)) rfl ?_
    have hr := HR.out
    rw [if_pos h0] at hr
    obtain ⟨rfl, rfl⟩ := Prod.mk.inj hr
    refine ⟨rfl, ?_⟩
    rw [hRr]
    refine below_drew ?_
    iterate 4 refine Below.setCell ?_ (Nat.le_refl R) _
    exact hB4.setCell (p := ⟨X, 3, none⟩) (by show R ≤ X; omega) _
theorem refDecode_any (s : ByteArray) (hs : s.size ≤ 140737488351232) (w : World) :
    Calls Try.prog 76 #[.string s] w fun e w' => e = .returned (decV s.data.toList) ∧ Below w.heap.size w w' := by
  have hl : s.data.toList.length = s.size := data_length s
  have b1 := rdT_bd (s := s.data.toList) (p := 0) (by omega) 0 24
  have b2 := rdV_bd b1.1 (rdT s.data.toList 0 0 24).2.2 1099511627776
  have b3 := rdV_bd b2.1 (rdV s.data.toList (rdT s.data.toList 0 0 24).2.1 (rdT s.data.toList 0 0 24).2.2 1099511627776).2.2 1125899906842624
  have b4 := (rdB_bd b3.1 (rdV s.data.toList (rdV s.data.toList (rdT s.data.toList 0 0 24).2.1 (rdT s.data.toList 0 0 24).2.2 1099511627776).2.1 (rdV s.data.toList (rdT s.data.toList 0 0 24).2.1 (rdT s.data.toList 0 0 24).2.2 1099511627776).2.2 1125899906842624).2.2).1
  have hq := decRc_eq s.data.toList
  rw [hl] at hq
  have c1 := b1.1
  have c2 := b2.1
  have c3 := b3.1
  rw [hl] at c1 c2 c3 b4
  exact refDecode_gen s hs w (rdT s.data.toList 0 0 24) (rdV s.data.toList (rdT s.data.toList 0 0 24).2.1 (rdT s.data.toList 0 0 24).2.2 1099511627776)
    (rdV s.data.toList (rdV s.data.toList (rdT s.data.toList 0 0 24).2.1 (rdT s.data.toList 0 0 24).2.2 1099511627776).2.1 (rdV s.data.toList (rdT s.data.toList 0 0 24).2.1 (rdT s.data.toList 0 0 24).2.2 1099511627776).2.2 1125899906842624)
    (rdB s.data.toList _ _) b1.2 b2.2 b3.2 b4
    (fun W h k => refRdText_any s hs _ 0 (by omega) 0 w W 24 (by omega) h k)
    (fun W h k => refRdVarint_any s hs _ _ c1 _ w W 1099511627776 h k)
    (fun W h k => refRdVarint_any s hs _ _ c2 _ w W 1125899906842624 h k)
    (fun W h k => refRdByte_any s hs _ _ c3 _ w W h k)
    _ _ hq
end Go.Proofs.Ytobanhbjkomieaa.RP
namespace Go.Proofs.Ytobanhbjkomieaa.RP
open Go.RowKit Go.Proofs.Ytobanhbjkomieaa.PAll Go.Proofs.Ytobanhbjkomieaa.KP Go.Proofs.Ytobanhbjkomieaa.BP Go.Proofs.YtobanhbjkomieaaW.PrintWords Go.Proofs.YtobanhbjkomieaaW.PrintLast Go.Proofs.YtobanhbjkomieaaW.PrintMore
set_option linter.unusedSimpArgs false
set_option linter.unusedVariables false
/-! ### the reference's DecodeTenant -/
set_option maxHeartbeats 8000000 in
set_option maxRecDepth 100000 in
theorem refDecodeTen_gen (s : ByteArray) (hs : s.size ≤ 140737488351232) (w : World) (v u : Nat × Nat × Int) (hv : v.1 ≤ 1048576) (hu : u.1 ≤ 1099511627776) (hp : u.2.1 ≤ s.size)
    (c1 : ∀ W, IsS187 w W (w.heap.size + 1) s 0 0 → Below w.heap.size w W → Calls Try.prog 149 #[.pointer (some ⟨w.heap.size + 1, 0, none⟩), .int .u64 1048576] W fun r w' => r = .returned (.int .u64 v.1) ∧ IsS187 w w' (w.heap.size + 1) s v.2.1 v.2.2 ∧ Below w.heap.size w w' ∧ KeepBut W w' (w.heap.size + 1) none)
    (c2 : ∀ W, IsS187 w W (w.heap.size + 1) s v.2.1 v.2.2 → Below w.heap.size w W → Calls Try.prog 149 #[.pointer (some ⟨w.heap.size + 1, 0, none⟩), .int .u64 1099511627776] W fun r w' => r = .returned (.int .u64 u.1) ∧ IsS187 w w' (w.heap.size + 1) s u.2.1 u.2.2 ∧ Below w.heap.size w w' ∧ KeepBut W w' (w.heap.size + 1) none)
    (r : Tn) (ec : Int)
    (hr : (r, ec) = if u.2.2 ≠ 0 then (noTn, u.2.2) else if u.2.1 < s.size ∨ mayTen v.1 u.1 = false then (noTn, 4) else (⟨v.1, u.1⟩, 0)) :
    Calls Try.prog 78 #[.string s] w fun e w' => e = .returned (.tuple #[tnV r, .int .i64 ec]) ∧ Below w.heap.size w w' := by
  have C1 := Lib.hid c1
  have C2 := Lib.hid c2
  have HR := Lib.hid hr
  have hv2 : wrap64 (v.1 : Int) = v.1 := by unfold wrap64; omega
  have hu2 : wrap64 (u.1 : Int) = u.1 := by unfold wrap64; omega
  clear c1 c2 hr
  go_enter Try.func78, Try.ntmps78
  go_wp2_with fail
  refine (C1.out _ ?_ ?_).mono ?_
  · exact ⟨blk_alloc (heap_alloc2_new w _ _) _, by omega⟩
  · exact below_alloc (below_alloc (below_alloc (Below.refl _ _) _) _) _
  rintro e w1 ⟨rfl, hI1, hB1, hK1⟩
  have HX1 := Lib.hid ((hK1.2 (w.heap.size + 2) (by simp) (by omega) (by simp)).trans (heap_alloc_at _ _ (by simp)))
  have HR1 := Lib.hid ((hK1.2 w.heap.size (by simp; omega) (by omega) (by simp)).trans (blk_alloc (blk_alloc (heap_alloc_new w _) _) _))
  have ne1 : w.heap.size + 1 ≠ w.heap.size + 2 := by omega
  clear hK1
  generalize hX : w.heap.size + 2 = X at *
  generalize hG : w.heap.size + 1 = G at *
  generalize hRr : w.heap.size = R at *
  have hcx0 := blk_cell HX1.out 0
  have hfx0 := blk_frozen HX1.out 0
  simp at hcx0
  go_wp2_with fail
  refine (C2.out _ ?_ ?_).mono ?_
  · exact hI1.far ne1 _
  · exact hB1.setCell (p := ⟨X, 0, none⟩) (by show R ≤ X; omega) _
  rintro e w2 ⟨rfl, hI2, hB2, hK2⟩
  have HX2 := Lib.hid ((hK2.2 X (by have := blk_lt HX1.out; simpa using this) (by omega) (by simp)).trans (blk_put (cs' := #[.int .i64 v.1, .int .i64 0]) HX1.out 0 (.int .i64 v.1) rfl))
  have HR2 := Lib.hid ((hK2.2 R (by have := blk_lt HR1.out; simpa using this) (by omega) (by simp)).trans (blk_far HR1.out (p := ⟨X, 0, none⟩) (by show R ≠ X; omega) _))
  have HG2 := Lib.hid hI2.1
  clear hK2 HX1 HR1 hI1 hB1 hI2
  clear hcx0 hfx0
  have hcx0 := blk_cell HX2.out 0
  have hcx1 := blk_cell HX2.out 1
  have hfx0 := blk_frozen HX2.out 0
  have hfx1 := blk_frozen HX2.out 1
  have hcr0 := blk_cell HR2.out 0
  have hcr1 := blk_cell HR2.out 1
  have hfr0 := blk_frozen HR2.out 0
  have hfr1 := blk_frozen HR2.out 1
  have hcg0 := blk_cell HG2.out 0
  have hcg1 := blk_cell HG2.out 1
  have hcg2 := blk_cell HG2.out 2
  simp at hcx0 hcx1 hcr0 hcr1 hcg0 hcg1 hcg2
  have ne2 : R ≠ X := by omega
  have ne3 : G ≠ R := by omega
  obtain ⟨ub, up, ue⟩ := u
  simp only at *
  by_cases h0 : ue = 0
  · subst h0
    by_cases h2 : up < s.size
    · have j1 : ((up : Int) < (s.size : Int)) = True := eq_true (by omega)
      have j2 : decide ((up : Int) < (s.size : Int)) = true := decide_eq_true (by omega)
      have j3 : decide (up < s.size) = true := decide_eq_true h2
      go_wp2_with fail
      refine bodyPost_ret (results_cell_tmp rfl _ _ R 25 _ (0, 0) _ _ rfl rfl (blk_put2 (blk_far HR2.out (p := ⟨X, 1, none⟩) ne2 _)) Try.underlying25 rfl (by kernel_rfl)) rfl ?_
      have hr := HR.out
      rw [if_neg (by simp), if_pos (.inl h2)] at hr
      obtain ⟨rfl, rfl⟩ := Prod.mk.inj hr
      refine ⟨rfl, ?_⟩
      rw [hRr]
      iterate 2 refine Below.setCell ?_ (Nat.le_refl R) _
      exact hB2.setCell (p := ⟨X, 1, none⟩) (by show R ≤ X; omega) _
    · have j1 : ((up : Int) < (s.size : Int)) = False := eq_false (by omega)
      have j2 : decide ((up : Int) < (s.size : Int)) = false := decide_eq_false (by omega)
      have j3 : decide (up < s.size) = false := decide_eq_false h2
      have hm := fun W => refTenMay_any v.1 ub W
      have HM := Lib.hid hm
      clear hm
      go_wp2_with fail
      refine (HM.out _).mono ?_
      rintro e w5 ⟨rfl, hb5⟩
      have hB5 := (hB2.setCell (p := ⟨X, 1, none⟩) (by show R ≤ X; omega) (.int .i64 ub)).trans (hb5.mono (by have := blk_lt HR2.out; simp; omega))
      have HX5 := Lib.hid ((hb5.block X (by have := blk_lt HX2.out; simpa using this)).trans (blk_put (cs' := #[.int .i64 v.1, .int .i64 ub]) HX2.out 1 (.int .i64 ub) rfl))
      have HR5 := Lib.hid ((hb5.block R (by have := blk_lt HR2.out; simpa using this)).trans (blk_far HR2.out (p := ⟨X, 1, none⟩) ne2 _))
      clear hb5 HX2 HR2
      clear hcx0 hcx1 hfx0 hfx1
      clear hcr0 hcr1 hfr0 hfr1
      have hcx0 := blk_cell HX5.out 0
      have hcx1 := blk_cell HX5.out 1
      have hcr0 := blk_cell HR5.out 0
      have hcr1 := blk_cell HR5.out 1
      have hfr0 := blk_frozen HR5.out 0
      have hfr1 := blk_frozen HR5.out 1
      simp at hcx0 hcx1 hcr0 hcr1
      by_cases h3 : mayTen v.1 ub = true
      · rw [h3]
        go_wp2_with fail
        refine bodyPost_ret (results_cell_tmp rfl _ _ R 25 _ (0, 0) _ _ rfl rfl (blk_put2 HR5.out) Try.underlying25 rfl (by kernel_rfl)) rfl ?_
        have hr := HR.out
        rw [if_neg (by simp), if_neg (by rw [h3]; simp; omega)] at hr
        obtain ⟨rfl, rfl⟩ := Prod.mk.inj hr
        refine ⟨rfl, ?_⟩
        rw [hRr]
        iterate 2 refine Below.setCell ?_ (Nat.le_refl R) _
        exact hB5
      · rw [Bool.not_eq_true] at h3
        rw [h3]
        go_wp2_with fail
        refine bodyPost_ret (results_cell_tmp rfl _ _ R 25 _ (0, 0) _ _ rfl rfl (blk_put2 HR5.out) Try.underlying25 rfl (by kernel_rfl)) rfl ?_
        have hr := HR.out
        rw [if_neg (by simp), if_pos (.inr h3)] at hr
        obtain ⟨rfl, rfl⟩ := Prod.mk.inj hr
        refine ⟨rfl, ?_⟩
        rw [hRr]
        iterate 2 refine Below.setCell ?_ (Nat.le_refl R) _
        exact hB5
  · have h1 : (ue == 0) = false := beq_eq_false_iff_ne.2 h0
    go_wp2_with fail
    go_region
    go_wp2_with fail
    refine bodyPost_ret (results_cell_tmp rfl _ _ R 25 _ (0, 0) _ _ rfl rfl (blk_put2 (blk_far HR2.out (p := ⟨X, 1, none⟩) ne2 _)) Try.underlying25 rfl (by kernel_rfl)) rfl ?_
    have hr := HR.out
    rw [if_pos h0] at hr
    obtain ⟨rfl, rfl⟩ := Prod.mk.inj hr
    refine ⟨rfl, ?_⟩
    rw [hRr]
    refine below_drew ?_
    iterate 2 refine Below.setCell ?_ (Nat.le_refl R) _
    exact hB2.setCell (p := ⟨X, 1, none⟩) (by show R ≤ X; omega) _
theorem refDecodeTen_any (s : ByteArray) (hs : s.size ≤ 140737488351232) (w : World) :
    Calls Try.prog 78 #[.string s] w fun e w' => e = .returned (decTV s.data.toList) ∧ Below w.heap.size w w' := by
  have hl : s.data.toList.length = s.size := data_length s
  have b1 := rdV_bd (s := s.data.toList) (p := 0) (by omega) 0 1048576
  have b2 := rdV_bd b1.1 (rdV s.data.toList 0 0 1048576).2.2 1099511627776
  have hq := decTn_eq s.data.toList
  rw [hl] at hq
  have c1 := b1.1
  have c2 := b2.1
  rw [hl] at c1 c2
  exact refDecodeTen_gen s hs w (rdV s.data.toList 0 0 1048576) (rdV s.data.toList (rdV s.data.toList 0 0 1048576).2.1 (rdV s.data.toList 0 0 1048576).2.2 1099511627776) b1.2 b2.2 c2
    (fun W h k => refRdVarint_any s hs _ 0 (by omega) 0 w W 1048576 h k)
    (fun W h k => refRdVarint_any s hs _ _ c1 _ w W 1099511627776 h k)
    _ _ hq
end Go.Proofs.Ytobanhbjkomieaa.RP
namespace Go.Proofs.Ytobanhbjkomieaa.RP
open Go.RowKit Go.Proofs.Ytobanhbjkomieaa.PAll Go.Proofs.Ytobanhbjkomieaa.KP Go.Proofs.Ytobanhbjkomieaa.BP Go.Proofs.YtobanhbjkomieaaW.PrintWords Go.Proofs.YtobanhbjkomieaaW.PrintLast Go.Proofs.YtobanhbjkomieaaW.PrintMore
set_option linter.unusedSimpArgs false
set_option linter.unusedVariables false
/-! ### what an entry says -/
structure It where
  ten : List UInt8
  cl : List UInt8
  rc : Rc
  tn : Tn
deriving DecidableEq
def noIt : It := ⟨[], [], noRc, noTn⟩
def itV (x : It) : Value := .agg #[.string ⟨x.ten.toArray⟩, .string ⟨x.cl.toArray⟩, .string ⟨x.rc.rep.toArray⟩, .int .i64 x.rc.ep, .int .i64 x.rc.tm, .bool x.rc.gone, .int .i64 x.tn.live, .int .i64 x.tn.ep]
def readIt (key val : List UInt8) : It × Int :=
  if (readK key).2.2 = false then (noIt, 1)
  else if (readK key).2.1 = [] then (if (decTn val).2 ≠ 0 then (noIt, (decTn val).2) else (⟨(readK key).1, [], noRc, (decTn val).1⟩, 0))
  else (if (decRc val).2 ≠ 0 then (noIt, (decRc val).2) else (⟨(readK key).1, (readK key).2.1, (decRc val).1, noTn⟩, 0))
def itR (r : It × Int) : Value := .tuple #[itV r.1, .int .i64 r.2]
theorem blk_put8 {w : World} {g : Nat} {t : TypeId} {a b c d e f h i a' b' c' d' e' f' h' i' : Value} (k0 : w.heap[g]? = some (.cells #[a, b, c, d, e, f, h, i] t (0, 0))) :
    ((((((((w.setCell ⟨g, 0, none⟩ a').setCell ⟨g, 1, none⟩ b').setCell ⟨g, 2, none⟩ c').setCell ⟨g, 3, none⟩ d').setCell ⟨g, 4, none⟩ e').setCell ⟨g, 5, none⟩ f').setCell ⟨g, 6, none⟩ h').setCell ⟨g, 7, none⟩ i').heap[g]? = some (.cells #[a', b', c', d', e', f', h', i'] t (0, 0)) := by
  have k1 := blk_put (cs' := #[a', b, c, d, e, f, h, i]) k0 0 a' rfl
  have k2 := blk_put (cs' := #[a', b', c, d, e, f, h, i]) k1 1 b' rfl
  have k3 := blk_put (cs' := #[a', b', c', d, e, f, h, i]) k2 2 c' rfl
  have k4 := blk_put (cs' := #[a', b', c', d', e, f, h, i]) k3 3 d' rfl
  have k5 := blk_put (cs' := #[a', b', c', d', e', f, h, i]) k4 4 e' rfl
  have k6 := blk_put (cs' := #[a', b', c', d', e', f', h, i]) k5 5 f' rfl
  have k7 := blk_put (cs' := #[a', b', c', d', e', f', h', i]) k6 6 h' rfl
  have k8 := blk_put (cs' := #[a', b', c', d', e', f', h', i']) k7 7 i' rfl
  exact k8
set_option maxHeartbeats 1000000 in
set_option maxRecDepth 100000 in
theorem readRec_any (key val : ByteArray) (hk : key.size ≤ 140737488351232) (hv : val.size ≤ 140737488351232) (w : World) :
    Calls Try.prog 79 #[.string key, .string val] w fun e w' => e = .returned (itR (readIt key.data.toList val.data.toList)) ∧ Below w.heap.size w w' := by
  have hkr := fun W => keysRead_any key hk W
  have hdt := fun W => decodeTen_any val hv W
  have hdr := fun W => decode_any val hv W
  unfold readIt itR
  unfold decV rcV at hdr
  unfold decTV tnV at hdt
  generalize readK key.data.toList = kk at *
  generalize decTn val.data.toList = dt at *
  generalize decRc val.data.toList = dr at *
  obtain ⟨dt, et⟩ := dt
  obtain ⟨dr, er⟩ := dr
  obtain ⟨kt, kc, ki⟩ := kk
  have HKR := Lib.hid hkr
  have HDT := Lib.hid hdt
  have HDR := Lib.hid hdr
  clear hkr hdt hdr
  simp only at HKR HDT HDR ⊢
  cases ki
  · rw [if_pos rfl]
    go_enter Try.func79, Try.ntmps79
    go_wp2_with fail
    refine (HKR.out _).mono ?_
    rintro e w1 ⟨rfl, n1, rfl⟩
    go_wp2_with fail
    have hr0 : ((w.alloc (.cells #[.string ⟨#[]⟩, .string ⟨#[]⟩, .string ⟨#[]⟩, .int .i64 0, .int .i64 0, .bool false, .int .i64 0, .int .i64 0] 113)).drewN n1).heap[w.heap.size]? = _ := heap_alloc_new w _
    refine bodyPost_ret (results_cell_tmp rfl _ _ w.heap.size 113 _ (0, 0) _ _ rfl rfl (blk_put8 hr0) Try.underlying113 rfl (by kernel_rfl)) rfl ?_
    refine ⟨rfl, ?_⟩
    iterate 8 refine Below.setCell ?_ (Nat.le_refl w.heap.size) _
    exact pw_below_drewN ((Below.refl _ _).alloc (Nat.le_refl _) _) _
  · rw [if_neg (by simp)]
    by_cases hc : kc = []
    · subst hc
      rw [if_pos rfl]
      go_enter Try.func79, Try.ntmps79
      go_wp2_with fail
      refine (HKR.out _).mono ?_
      rintro e w1 ⟨rfl, n1, rfl⟩
      go_wp2_with fail
      refine (HDT.out _).mono ?_
      rintro e w2 ⟨rfl, hb2⟩
      have hB2 := (below_alloc (pw_below_drewN (below_alloc (Below.refl w.heap.size w) (.cells #[.string ⟨#[]⟩, .string ⟨#[]⟩, .string ⟨#[]⟩, .int .i64 0, .int .i64 0, .bool false, .int .i64 0, .int .i64 0] 113)) n1) (.cells #[.string ⟨kt.toArray⟩, .string ⟨#[]⟩, .string ⟨#[]⟩, .int .i64 0, .int .i64 0, .bool false, .int .i64 0, .int .i64 0] 113)).trans (hb2.mono (by simp; omega))
      have HR2 := Lib.hid ((hb2.block w.heap.size (by simp; omega)).trans (blk_alloc (w := World.drewN _ n1) (heap_alloc_new w _) _))
      have HX2 := Lib.hid ((hb2.block (w.heap.size + 1) (by simp)).trans (heap_alloc_at (World.drewN _ n1) _ (by simp)))
      clear hb2
      generalize hX : w.heap.size + 1 = X at *
      generalize hRr : w.heap.size = R at *
      have ne : R ≠ X := by omega
      by_cases h0 : et = 0
      · subst h0
        have hcx0 := blk_cell HX2.out 0
        have hcx1 := blk_cell HX2.out 1
        have hcx2 := blk_cell HX2.out 2
        have hcx3 := blk_cell HX2.out 3
        have hcx4 := blk_cell HX2.out 4
        have hcx5 := blk_cell HX2.out 5
        have hcx6 := blk_cell HX2.out 6
        have hcx7 := blk_cell HX2.out 7
        have hfx0 := blk_frozen HX2.out 0
        have hfx1 := blk_frozen HX2.out 1
        have hfx2 := blk_frozen HX2.out 2
        have hfx3 := blk_frozen HX2.out 3
        have hfx4 := blk_frozen HX2.out 4
        have hfx5 := blk_frozen HX2.out 5
        have hfx6 := blk_frozen HX2.out 6
        have hfx7 := blk_frozen HX2.out 7
        have hcr0 := blk_cell HR2.out 0
        have hcr1 := blk_cell HR2.out 1
        have hcr2 := blk_cell HR2.out 2
        have hcr3 := blk_cell HR2.out 3
        have hcr4 := blk_cell HR2.out 4
        have hcr5 := blk_cell HR2.out 5
        have hcr6 := blk_cell HR2.out 6
        have hcr7 := blk_cell HR2.out 7
        have hfr0 := blk_frozen HR2.out 0
        have hfr1 := blk_frozen HR2.out 1
        have hfr2 := blk_frozen HR2.out 2
        have hfr3 := blk_frozen HR2.out 3
        have hfr4 := blk_frozen HR2.out 4
        have hfr5 := blk_frozen HR2.out 5
        have hfr6 := blk_frozen HR2.out 6
        have hfr7 := blk_frozen HR2.out 7
        simp at hcx0 hcx1 hcx2 hcx3 hcx4 hcx5 hcx6 hcx7 hcr0 hcr1 hcr2 hcr3 hcr4 hcr5 hcr6 hcr7
        go_wp2_with fail
        refine bodyPost_ret (results_cell_tmp rfl _ _ R 113 _ (0, 0) _ _ rfl rfl (blk_put8 (blk_far (blk_far HR2.out (p := ⟨X, 6, none⟩) ne _) (p := ⟨X, 7, none⟩) ne _)) Try.underlying113 rfl (by kernel_rfl)) rfl ?_
        refine ⟨by first | rfl | (rw [if_pos h0]; rfl) | (rw [if_neg (by simp)]; rfl), ?_⟩
        try rw [hRr]
        iterate 8 refine Below.setCell ?_ (Nat.le_refl R) _
        exact (hB2.setCell (p := ⟨X, 6, none⟩) (by show R ≤ X; omega) _).setCell (p := ⟨X, 7, none⟩) (by show R ≤ X; omega) _
      · have e0 : (et == 0) = false := beq_eq_false_iff_ne.2 h0
        have hcx0 := blk_cell HX2.out 0
        have hcx1 := blk_cell HX2.out 1
        have hcx2 := blk_cell HX2.out 2
        have hcx3 := blk_cell HX2.out 3
        have hcx4 := blk_cell HX2.out 4
        have hcx5 := blk_cell HX2.out 5
        have hcx6 := blk_cell HX2.out 6
        have hcx7 := blk_cell HX2.out 7
        have hfx0 := blk_frozen HX2.out 0
        have hfx1 := blk_frozen HX2.out 1
        have hfx2 := blk_frozen HX2.out 2
        have hfx3 := blk_frozen HX2.out 3
        have hfx4 := blk_frozen HX2.out 4
        have hfx5 := blk_frozen HX2.out 5
        have hfx6 := blk_frozen HX2.out 6
        have hfx7 := blk_frozen HX2.out 7
        have hcr0 := blk_cell HR2.out 0
        have hcr1 := blk_cell HR2.out 1
        have hcr2 := blk_cell HR2.out 2
        have hcr3 := blk_cell HR2.out 3
        have hcr4 := blk_cell HR2.out 4
        have hcr5 := blk_cell HR2.out 5
        have hcr6 := blk_cell HR2.out 6
        have hcr7 := blk_cell HR2.out 7
        have hfr0 := blk_frozen HR2.out 0
        have hfr1 := blk_frozen HR2.out 1
        have hfr2 := blk_frozen HR2.out 2
        have hfr3 := blk_frozen HR2.out 3
        have hfr4 := blk_frozen HR2.out 4
        have hfr5 := blk_frozen HR2.out 5
        have hfr6 := blk_frozen HR2.out 6
        have hfr7 := blk_frozen HR2.out 7
        simp at hcx0 hcx1 hcx2 hcx3 hcx4 hcx5 hcx6 hcx7 hcr0 hcr1 hcr2 hcr3 hcr4 hcr5 hcr6 hcr7
        go_wp2_with fail
        refine bodyPost_ret (results_cell_tmp rfl _ _ R 113 _ (0, 0) _ _ rfl rfl (blk_put8 (blk_far (blk_far HR2.out (p := ⟨X, 6, none⟩) ne _) (p := ⟨X, 7, none⟩) ne _)) Try.underlying113 rfl (by kernel_rfl)) rfl ?_
        refine ⟨by first | rfl | (rw [if_pos h0]; rfl) | (rw [if_neg (by simp)]; rfl), ?_⟩
        try rw [hRr]
        iterate 8 refine Below.setCell ?_ (Nat.le_refl R) _
        exact (hB2.setCell (p := ⟨X, 6, none⟩) (by show R ≤ X; omega) _).setCell (p := ⟨X, 7, none⟩) (by show R ≤ X; omega) _
    · rw [if_neg hc]
      have e1 : (⟨kc.toArray⟩ : ByteArray).toList = kc := toList_mk kc
      have e2 : kc.isEmpty = false := by cases kc; exact absurd rfl hc; rfl
      go_enter Try.func79, Try.ntmps79
      go_wp2_with fail
      refine (HKR.out _).mono ?_
      rintro e w1 ⟨rfl, n1, rfl⟩
      go_wp2_with fail
      refine (HDR.out _).mono ?_
      rintro e w2 ⟨rfl, hb2⟩
      have hB2 := (below_alloc (pw_below_drewN (below_alloc (Below.refl w.heap.size w) (.cells #[.string ⟨#[]⟩, .string ⟨#[]⟩, .string ⟨#[]⟩, .int .i64 0, .int .i64 0, .bool false, .int .i64 0, .int .i64 0] 113)) n1) (.cells #[.string ⟨kt.toArray⟩, .string ⟨kc.toArray⟩, .string ⟨#[]⟩, .int .i64 0, .int .i64 0, .bool false, .int .i64 0, .int .i64 0] 113)).trans (hb2.mono (by simp; omega))
      have HR2 := Lib.hid ((hb2.block w.heap.size (by simp; omega)).trans (blk_alloc (w := World.drewN _ n1) (heap_alloc_new w _) _))
      have HX2 := Lib.hid ((hb2.block (w.heap.size + 1) (by simp)).trans (heap_alloc_at (World.drewN _ n1) _ (by simp)))
      clear hb2
      generalize hX : w.heap.size + 1 = X at *
      generalize hRr : w.heap.size = R at *
      have ne : R ≠ X := by omega
      by_cases h0 : er = 0
      · subst h0
        have hcx0 := blk_cell HX2.out 0
        have hcx1 := blk_cell HX2.out 1
        have hcx2 := blk_cell HX2.out 2
        have hcx3 := blk_cell HX2.out 3
        have hcx4 := blk_cell HX2.out 4
        have hcx5 := blk_cell HX2.out 5
        have hcx6 := blk_cell HX2.out 6
        have hcx7 := blk_cell HX2.out 7
        have hfx0 := blk_frozen HX2.out 0
        have hfx1 := blk_frozen HX2.out 1
        have hfx2 := blk_frozen HX2.out 2
        have hfx3 := blk_frozen HX2.out 3
        have hfx4 := blk_frozen HX2.out 4
        have hfx5 := blk_frozen HX2.out 5
        have hfx6 := blk_frozen HX2.out 6
        have hfx7 := blk_frozen HX2.out 7
        have hcr0 := blk_cell HR2.out 0
        have hcr1 := blk_cell HR2.out 1
        have hcr2 := blk_cell HR2.out 2
        have hcr3 := blk_cell HR2.out 3
        have hcr4 := blk_cell HR2.out 4
        have hcr5 := blk_cell HR2.out 5
        have hcr6 := blk_cell HR2.out 6
        have hcr7 := blk_cell HR2.out 7
        have hfr0 := blk_frozen HR2.out 0
        have hfr1 := blk_frozen HR2.out 1
        have hfr2 := blk_frozen HR2.out 2
        have hfr3 := blk_frozen HR2.out 3
        have hfr4 := blk_frozen HR2.out 4
        have hfr5 := blk_frozen HR2.out 5
        have hfr6 := blk_frozen HR2.out 6
        have hfr7 := blk_frozen HR2.out 7
        simp at hcx0 hcx1 hcx2 hcx3 hcx4 hcx5 hcx6 hcx7 hcr0 hcr1 hcr2 hcr3 hcr4 hcr5 hcr6 hcr7
        go_wp2_with fail
        refine bodyPost_ret (results_cell_tmp rfl _ _ R 113 _ (0, 0) _ _ rfl rfl (blk_put8 (blk_far (blk_far (blk_far (blk_far HR2.out (p := ⟨X, 2, none⟩) ne _) (p := ⟨X, 3, none⟩) ne _) (p := ⟨X, 4, none⟩) ne _) (p := ⟨X, 5, none⟩) ne _)) Try.underlying113 rfl (by kernel_rfl)) rfl ?_
        refine ⟨by first | rfl | (rw [if_pos h0]; rfl) | (rw [if_neg (by simp)]; rfl), ?_⟩
        try rw [hRr]
        iterate 8 refine Below.setCell ?_ (Nat.le_refl R) _
        exact (((hB2.setCell (p := ⟨X, 2, none⟩) (by show R ≤ X; omega) _).setCell (p := ⟨X, 3, none⟩) (by show R ≤ X; omega) _).setCell (p := ⟨X, 4, none⟩) (by show R ≤ X; omega) _).setCell (p := ⟨X, 5, none⟩) (by show R ≤ X; omega) _
      · have e0 : (er == 0) = false := beq_eq_false_iff_ne.2 h0
        have hcx0 := blk_cell HX2.out 0
        have hcx1 := blk_cell HX2.out 1
        have hcx2 := blk_cell HX2.out 2
        have hcx3 := blk_cell HX2.out 3
        have hcx4 := blk_cell HX2.out 4
        have hcx5 := blk_cell HX2.out 5
        have hcx6 := blk_cell HX2.out 6
        have hcx7 := blk_cell HX2.out 7
        have hfx0 := blk_frozen HX2.out 0
        have hfx1 := blk_frozen HX2.out 1
        have hfx2 := blk_frozen HX2.out 2
        have hfx3 := blk_frozen HX2.out 3
        have hfx4 := blk_frozen HX2.out 4
        have hfx5 := blk_frozen HX2.out 5
        have hfx6 := blk_frozen HX2.out 6
        have hfx7 := blk_frozen HX2.out 7
        have hcr0 := blk_cell HR2.out 0
        have hcr1 := blk_cell HR2.out 1
        have hcr2 := blk_cell HR2.out 2
        have hcr3 := blk_cell HR2.out 3
        have hcr4 := blk_cell HR2.out 4
        have hcr5 := blk_cell HR2.out 5
        have hcr6 := blk_cell HR2.out 6
        have hcr7 := blk_cell HR2.out 7
        have hfr0 := blk_frozen HR2.out 0
        have hfr1 := blk_frozen HR2.out 1
        have hfr2 := blk_frozen HR2.out 2
        have hfr3 := blk_frozen HR2.out 3
        have hfr4 := blk_frozen HR2.out 4
        have hfr5 := blk_frozen HR2.out 5
        have hfr6 := blk_frozen HR2.out 6
        have hfr7 := blk_frozen HR2.out 7
        simp at hcx0 hcx1 hcx2 hcx3 hcx4 hcx5 hcx6 hcx7 hcr0 hcr1 hcr2 hcr3 hcr4 hcr5 hcr6 hcr7
        go_wp2_with fail
        refine bodyPost_ret (results_cell_tmp rfl _ _ R 113 _ (0, 0) _ _ rfl rfl (blk_put8 (blk_far (blk_far (blk_far (blk_far HR2.out (p := ⟨X, 2, none⟩) ne _) (p := ⟨X, 3, none⟩) ne _) (p := ⟨X, 4, none⟩) ne _) (p := ⟨X, 5, none⟩) ne _)) Try.underlying113 rfl (by kernel_rfl)) rfl ?_
        refine ⟨by first | rfl | (rw [if_pos h0]; rfl) | (rw [if_neg (by simp)]; rfl), ?_⟩
        try rw [hRr]
        iterate 8 refine Below.setCell ?_ (Nat.le_refl R) _
        exact (((hB2.setCell (p := ⟨X, 2, none⟩) (by show R ≤ X; omega) _).setCell (p := ⟨X, 3, none⟩) (by show R ≤ X; omega) _).setCell (p := ⟨X, 4, none⟩) (by show R ≤ X; omega) _).setCell (p := ⟨X, 5, none⟩) (by show R ≤ X; omega) _
set_option maxHeartbeats 1000000 in
set_option maxRecDepth 100000 in
theorem refReadRec_any (key val : ByteArray) (hk : key.size ≤ 140737488351232) (hv : val.size ≤ 140737488351232) (w : World) :
    Calls Try.prog 80 #[.string key, .string val] w fun e w' => e = .returned (itR (readIt key.data.toList val.data.toList)) ∧ Below w.heap.size w w' := by
  have hkr := fun W => refRead_any key hk W
  have hdt := fun W => refDecodeTen_any val hv W
  have hdr := fun W => refDecode_any val hv W
  unfold readIt itR
  unfold decV rcV at hdr
  unfold decTV tnV at hdt
  generalize readK key.data.toList = kk at *
  generalize decTn val.data.toList = dt at *
  generalize decRc val.data.toList = dr at *
  obtain ⟨dt, et⟩ := dt
  obtain ⟨dr, er⟩ := dr
  obtain ⟨kt, kc, ki⟩ := kk
  have HKR := Lib.hid hkr
  have HDT := Lib.hid hdt
  have HDR := Lib.hid hdr
  clear hkr hdt hdr
  simp only at HKR HDT HDR ⊢
  cases ki
  · rw [if_pos rfl]
    go_enter Try.func80, Try.ntmps80
    go_wp2_with fail
    refine (HKR.out _).mono ?_
    rintro e w1 ⟨rfl, n1, rfl⟩
    go_wp2_with fail
    have hr0 : ((w.alloc (.cells #[.string ⟨#[]⟩, .string ⟨#[]⟩, .string ⟨#[]⟩, .int .i64 0, .int .i64 0, .bool false, .int .i64 0, .int .i64 0] 116)).drewN n1).heap[w.heap.size]? = _ := heap_alloc_new w _
    refine bodyPost_ret (results_cell_tmp rfl _ _ w.heap.size 116 _ (0, 0) _ _ rfl rfl (blk_put8 hr0) Try.underlying116 rfl (by kernel_rfl)) rfl ?_
    refine ⟨rfl, ?_⟩
    iterate 8 refine Below.setCell ?_ (Nat.le_refl w.heap.size) _
    exact pw_below_drewN ((Below.refl _ _).alloc (Nat.le_refl _) _) _
  · rw [if_neg (by simp)]
    by_cases hc : kc = []
    · subst hc
      rw [if_pos rfl]
      go_enter Try.func80, Try.ntmps80
      go_wp2_with fail
      refine (HKR.out _).mono ?_
      rintro e w1 ⟨rfl, n1, rfl⟩
      go_wp2_with fail
      refine (HDT.out _).mono ?_
      rintro e w2 ⟨rfl, hb2⟩
      have hB2 := (below_alloc (pw_below_drewN (below_alloc (Below.refl w.heap.size w) (.cells #[.string ⟨#[]⟩, .string ⟨#[]⟩, .string ⟨#[]⟩, .int .i64 0, .int .i64 0, .bool false, .int .i64 0, .int .i64 0] 116)) n1) (.cells #[.string ⟨kt.toArray⟩, .string ⟨#[]⟩, .string ⟨#[]⟩, .int .i64 0, .int .i64 0, .bool false, .int .i64 0, .int .i64 0] 116)).trans (hb2.mono (by simp; omega))
      have HR2 := Lib.hid ((hb2.block w.heap.size (by simp; omega)).trans (blk_alloc (w := World.drewN _ n1) (heap_alloc_new w _) _))
      have HX2 := Lib.hid ((hb2.block (w.heap.size + 1) (by simp)).trans (heap_alloc_at (World.drewN _ n1) _ (by simp)))
      clear hb2
      generalize hX : w.heap.size + 1 = X at *
      generalize hRr : w.heap.size = R at *
      have ne : R ≠ X := by omega
      by_cases h0 : et = 0
      · subst h0
        have hcx0 := blk_cell HX2.out 0
        have hcx1 := blk_cell HX2.out 1
        have hcx2 := blk_cell HX2.out 2
        have hcx3 := blk_cell HX2.out 3
        have hcx4 := blk_cell HX2.out 4
        have hcx5 := blk_cell HX2.out 5
        have hcx6 := blk_cell HX2.out 6
        have hcx7 := blk_cell HX2.out 7
        have hfx0 := blk_frozen HX2.out 0
        have hfx1 := blk_frozen HX2.out 1
        have hfx2 := blk_frozen HX2.out 2
        have hfx3 := blk_frozen HX2.out 3
        have hfx4 := blk_frozen HX2.out 4
        have hfx5 := blk_frozen HX2.out 5
        have hfx6 := blk_frozen HX2.out 6
        have hfx7 := blk_frozen HX2.out 7
        have hcr0 := blk_cell HR2.out 0
        have hcr1 := blk_cell HR2.out 1
        have hcr2 := blk_cell HR2.out 2
        have hcr3 := blk_cell HR2.out 3
        have hcr4 := blk_cell HR2.out 4
        have hcr5 := blk_cell HR2.out 5
        have hcr6 := blk_cell HR2.out 6
        have hcr7 := blk_cell HR2.out 7
        have hfr0 := blk_frozen HR2.out 0
        have hfr1 := blk_frozen HR2.out 1
        have hfr2 := blk_frozen HR2.out 2
        have hfr3 := blk_frozen HR2.out 3
        have hfr4 := blk_frozen HR2.out 4
        have hfr5 := blk_frozen HR2.out 5
        have hfr6 := blk_frozen HR2.out 6
        have hfr7 := blk_frozen HR2.out 7
        simp at hcx0 hcx1 hcx2 hcx3 hcx4 hcx5 hcx6 hcx7 hcr0 hcr1 hcr2 hcr3 hcr4 hcr5 hcr6 hcr7
        go_wp2_with fail
        refine bodyPost_ret (results_cell_tmp rfl _ _ R 116 _ (0, 0) _ _ rfl rfl (blk_put8 (blk_far (blk_far HR2.out (p := ⟨X, 6, none⟩) ne _) (p := ⟨X, 7, none⟩) ne _)) Try.underlying116 rfl (by kernel_rfl)) rfl ?_
        refine ⟨by first | rfl | (rw [if_pos h0]; rfl) | (rw [if_neg (by simp)]; rfl), ?_⟩
        try rw [hRr]
        iterate 8 refine Below.setCell ?_ (Nat.le_refl R) _
        exact (hB2.setCell (p := ⟨X, 6, none⟩) (by show R ≤ X; omega) _).setCell (p := ⟨X, 7, none⟩) (by show R ≤ X; omega) _
      · have e0 : (et == 0) = false := beq_eq_false_iff_ne.2 h0
        have hcx0 := blk_cell HX2.out 0
        have hcx1 := blk_cell HX2.out 1
        have hcx2 := blk_cell HX2.out 2
        have hcx3 := blk_cell HX2.out 3
        have hcx4 := blk_cell HX2.out 4
        have hcx5 := blk_cell HX2.out 5
        have hcx6 := blk_cell HX2.out 6
        have hcx7 := blk_cell HX2.out 7
        have hfx0 := blk_frozen HX2.out 0
        have hfx1 := blk_frozen HX2.out 1
        have hfx2 := blk_frozen HX2.out 2
        have hfx3 := blk_frozen HX2.out 3
        have hfx4 := blk_frozen HX2.out 4
        have hfx5 := blk_frozen HX2.out 5
        have hfx6 := blk_frozen HX2.out 6
        have hfx7 := blk_frozen HX2.out 7
        have hcr0 := blk_cell HR2.out 0
        have hcr1 := blk_cell HR2.out 1
        have hcr2 := blk_cell HR2.out 2
        have hcr3 := blk_cell HR2.out 3
        have hcr4 := blk_cell HR2.out 4
        have hcr5 := blk_cell HR2.out 5
        have hcr6 := blk_cell HR2.out 6
        have hcr7 := blk_cell HR2.out 7
        have hfr0 := blk_frozen HR2.out 0
        have hfr1 := blk_frozen HR2.out 1
        have hfr2 := blk_frozen HR2.out 2
        have hfr3 := blk_frozen HR2.out 3
        have hfr4 := blk_frozen HR2.out 4
        have hfr5 := blk_frozen HR2.out 5
        have hfr6 := blk_frozen HR2.out 6
        have hfr7 := blk_frozen HR2.out 7
        simp at hcx0 hcx1 hcx2 hcx3 hcx4 hcx5 hcx6 hcx7 hcr0 hcr1 hcr2 hcr3 hcr4 hcr5 hcr6 hcr7
        go_wp2_with fail
        refine bodyPost_ret (results_cell_tmp rfl _ _ R 116 _ (0, 0) _ _ rfl rfl (blk_put8 (blk_far (blk_far HR2.out (p := ⟨X, 6, none⟩) ne _) (p := ⟨X, 7, none⟩) ne _)) Try.underlying116 rfl (by kernel_rfl)) rfl ?_
        refine ⟨by first | rfl | (rw [if_pos h0]; rfl) | (rw [if_neg (by simp)]; rfl), ?_⟩
        try rw [hRr]
        iterate 8 refine Below.setCell ?_ (Nat.le_refl R) _
        exact (hB2.setCell (p := ⟨X, 6, none⟩) (by show R ≤ X; omega) _).setCell (p := ⟨X, 7, none⟩) (by show R ≤ X; omega) _
    · rw [if_neg hc]
      have e1 : (⟨kc.toArray⟩ : ByteArray).toList = kc := toList_mk kc
      have e2 : kc.isEmpty = false := by cases kc; exact absurd rfl hc; rfl
      go_enter Try.func80, Try.ntmps80
      go_wp2_with fail
      refine (HKR.out _).mono ?_
      rintro e w1 ⟨rfl, n1, rfl⟩
      go_wp2_with fail
      refine (HDR.out _).mono ?_
      rintro e w2 ⟨rfl, hb2⟩
      have hB2 := (below_alloc (pw_below_drewN (below_alloc (Below.refl w.heap.size w) (.cells #[.string ⟨#[]⟩, .string ⟨#[]⟩, .string ⟨#[]⟩, .int .i64 0, .int .i64 0, .bool false, .int .i64 0, .int .i64 0] 116)) n1) (.cells #[.string ⟨kt.toArray⟩, .string ⟨kc.toArray⟩, .string ⟨#[]⟩, .int .i64 0, .int .i64 0, .bool false, .int .i64 0, .int .i64 0] 116)).trans (hb2.mono (by simp; omega))
      have HR2 := Lib.hid ((hb2.block w.heap.size (by simp; omega)).trans (blk_alloc (w := World.drewN _ n1) (heap_alloc_new w _) _))
      have HX2 := Lib.hid ((hb2.block (w.heap.size + 1) (by simp)).trans (heap_alloc_at (World.drewN _ n1) _ (by simp)))
      clear hb2
      generalize hX : w.heap.size + 1 = X at *
      generalize hRr : w.heap.size = R at *
      have ne : R ≠ X := by omega
      by_cases h0 : er = 0
      · subst h0
        have hcx0 := blk_cell HX2.out 0
        have hcx1 := blk_cell HX2.out 1
        have hcx2 := blk_cell HX2.out 2
        have hcx3 := blk_cell HX2.out 3
        have hcx4 := blk_cell HX2.out 4
        have hcx5 := blk_cell HX2.out 5
        have hcx6 := blk_cell HX2.out 6
        have hcx7 := blk_cell HX2.out 7
        have hfx0 := blk_frozen HX2.out 0
        have hfx1 := blk_frozen HX2.out 1
        have hfx2 := blk_frozen HX2.out 2
        have hfx3 := blk_frozen HX2.out 3
        have hfx4 := blk_frozen HX2.out 4
        have hfx5 := blk_frozen HX2.out 5
        have hfx6 := blk_frozen HX2.out 6
        have hfx7 := blk_frozen HX2.out 7
        have hcr0 := blk_cell HR2.out 0
        have hcr1 := blk_cell HR2.out 1
        have hcr2 := blk_cell HR2.out 2
        have hcr3 := blk_cell HR2.out 3
        have hcr4 := blk_cell HR2.out 4
        have hcr5 := blk_cell HR2.out 5
        have hcr6 := blk_cell HR2.out 6
        have hcr7 := blk_cell HR2.out 7
        have hfr0 := blk_frozen HR2.out 0
        have hfr1 := blk_frozen HR2.out 1
        have hfr2 := blk_frozen HR2.out 2
        have hfr3 := blk_frozen HR2.out 3
        have hfr4 := blk_frozen HR2.out 4
        have hfr5 := blk_frozen HR2.out 5
        have hfr6 := blk_frozen HR2.out 6
        have hfr7 := blk_frozen HR2.out 7
        simp at hcx0 hcx1 hcx2 hcx3 hcx4 hcx5 hcx6 hcx7 hcr0 hcr1 hcr2 hcr3 hcr4 hcr5 hcr6 hcr7
        go_wp2_with fail
        refine bodyPost_ret (results_cell_tmp rfl _ _ R 116 _ (0, 0) _ _ rfl rfl (blk_put8 (blk_far (blk_far (blk_far (blk_far HR2.out (p := ⟨X, 2, none⟩) ne _) (p := ⟨X, 3, none⟩) ne _) (p := ⟨X, 4, none⟩) ne _) (p := ⟨X, 5, none⟩) ne _)) Try.underlying116 rfl (by kernel_rfl)) rfl ?_
        refine ⟨by first | rfl | (rw [if_pos h0]; rfl) | (rw [if_neg (by simp)]; rfl), ?_⟩
        try rw [hRr]
        iterate 8 refine Below.setCell ?_ (Nat.le_refl R) _
        exact (((hB2.setCell (p := ⟨X, 2, none⟩) (by show R ≤ X; omega) _).setCell (p := ⟨X, 3, none⟩) (by show R ≤ X; omega) _).setCell (p := ⟨X, 4, none⟩) (by show R ≤ X; omega) _).setCell (p := ⟨X, 5, none⟩) (by show R ≤ X; omega) _
      · have e0 : (er == 0) = false := beq_eq_false_iff_ne.2 h0
        have hcx0 := blk_cell HX2.out 0
        have hcx1 := blk_cell HX2.out 1
        have hcx2 := blk_cell HX2.out 2
        have hcx3 := blk_cell HX2.out 3
        have hcx4 := blk_cell HX2.out 4
        have hcx5 := blk_cell HX2.out 5
        have hcx6 := blk_cell HX2.out 6
        have hcx7 := blk_cell HX2.out 7
        have hfx0 := blk_frozen HX2.out 0
        have hfx1 := blk_frozen HX2.out 1
        have hfx2 := blk_frozen HX2.out 2
        have hfx3 := blk_frozen HX2.out 3
        have hfx4 := blk_frozen HX2.out 4
        have hfx5 := blk_frozen HX2.out 5
        have hfx6 := blk_frozen HX2.out 6
        have hfx7 := blk_frozen HX2.out 7
        have hcr0 := blk_cell HR2.out 0
        have hcr1 := blk_cell HR2.out 1
        have hcr2 := blk_cell HR2.out 2
        have hcr3 := blk_cell HR2.out 3
        have hcr4 := blk_cell HR2.out 4
        have hcr5 := blk_cell HR2.out 5
        have hcr6 := blk_cell HR2.out 6
        have hcr7 := blk_cell HR2.out 7
        have hfr0 := blk_frozen HR2.out 0
        have hfr1 := blk_frozen HR2.out 1
        have hfr2 := blk_frozen HR2.out 2
        have hfr3 := blk_frozen HR2.out 3
        have hfr4 := blk_frozen HR2.out 4
        have hfr5 := blk_frozen HR2.out 5
        have hfr6 := blk_frozen HR2.out 6
        have hfr7 := blk_frozen HR2.out 7
        simp at hcx0 hcx1 hcx2 hcx3 hcx4 hcx5 hcx6 hcx7 hcr0 hcr1 hcr2 hcr3 hcr4 hcr5 hcr6 hcr7
        go_wp2_with fail
        refine bodyPost_ret (results_cell_tmp rfl _ _ R 116 _ (0, 0) _ _ rfl rfl (blk_put8 (blk_far (blk_far (blk_far (blk_far HR2.out (p := ⟨X, 2, none⟩) ne _) (p := ⟨X, 3, none⟩) ne _) (p := ⟨X, 4, none⟩) ne _) (p := ⟨X, 5, none⟩) ne _)) Try.underlying116 rfl (by kernel_rfl)) rfl ?_
        refine ⟨by first | rfl | (rw [if_pos h0]; rfl) | (rw [if_neg (by simp)]; rfl), ?_⟩
        try rw [hRr]
        iterate 8 refine Below.setCell ?_ (Nat.le_refl R) _
        exact (((hB2.setCell (p := ⟨X, 2, none⟩) (by show R ≤ X; omega) _).setCell (p := ⟨X, 3, none⟩) (by show R ≤ X; omega) _).setCell (p := ⟨X, 4, none⟩) (by show R ≤ X; omega) _).setCell (p := ⟨X, 5, none⟩) (by show R ≤ X; omega) _
end Go.Proofs.Ytobanhbjkomieaa.RP
namespace Go.Proofs.Ytobanhbjkomieaa.RP
open Go.RowKit Go.Proofs.Ytobanhbjkomieaa.PAll Go.Proofs.Ytobanhbjkomieaa.KP Go.Proofs.Ytobanhbjkomieaa.BP Go.Proofs.YtobanhbjkomieaaW.PrintWords Go.Proofs.YtobanhbjkomieaaW.PrintLast Go.Proofs.YtobanhbjkomieaaW.PrintMore
set_option linter.unusedSimpArgs false
set_option linter.unusedVariables false
attribute [local go_sem high] EQ.eqA23 EQ.eqA25 EQ.eqA113
/-! ### the laws' helpers -/
theorem mk_toList (s : ByteArray) : (⟨s.toList.toArray⟩ : ByteArray) = s := by rw [Lib.toList_data]
theorem rc_mk (rep : ByteArray) : (⟨rep.data.toList.toArray⟩ : ByteArray) = rep := rfl
def rcOf (rep : ByteArray) (ep tm : Int) (gone : Bool) : Rc := ⟨rep.data.toList, ep, tm, gone⟩
theorem rcOf_may (rep : ByteArray) (ep tm : Int) (gone : Bool) : (rcOf rep ep tm gone).may = mayRec rep ep tm := rfl
theorem strOf_bytes (rep : ByteArray) (ep tm : Int) (gone : Bool) : (strOfNums (recBytes rep ep tm gone)).data.toList = (rcOf rep ep tm gone).bytes := by
  rw [nb_strOf]
  exact bytes_rec (rcOf rep ep tm gone)
theorem strOf_tbytes (live ep : Int) : (strOfNums (tenBytes live ep)).data.toList = (⟨live, ep⟩ : Tn).bytes := by
  rw [nb_strOf]
  exact bytes_ten ⟨live, ep⟩
/-- Encode's and Decode's answers, taken apart. -/
theorem encYes (rep : ByteArray) (hs : rep.size ≤ 140737488351232) (ep tm : Int) (gone : Bool) (h : mayRec rep ep tm = true) (w : World) :
    Calls Try.prog 81 #[.agg #[.string rep, .int .i64 ep, .int .i64 tm, .bool gone]] w fun e w' => e = .returned (.tuple #[.string (strOfNums (recBytes rep ep tm gone)), .int .i64 0]) ∧ Below w.heap.size w w' := by
  have := encode_any rep hs ep tm gone w
  unfold encRes at this
  rwa [if_pos h] at this
theorem decAs (s : ByteArray) (hs : s.size ≤ 140737488351232) (rep : ByteArray) (ep tm : Int) (gone : Bool) (e : Int) (h : decRc s.data.toList = (rcOf rep ep tm gone, e)) (w : World) :
    Calls Try.prog 75 #[.string s] w fun r w' => r = .returned (.tuple #[.agg #[.string rep, .int .i64 ep, .int .i64 tm, .bool gone], .int .i64 e]) ∧ Below w.heap.size w w' := by
  have := decode_any s hs w
  unfold decV rcV at this
  rw [h] at this
  exact this
theorem decTAs (s : ByteArray) (hs : s.size ≤ 140737488351232) (live ep : Int) (e : Int) (h : decTn s.data.toList = (⟨live, ep⟩, e)) (w : World) :
    Calls Try.prog 77 #[.string s] w fun r w' => r = .returned (.tuple #[.agg #[.int .i64 live, .int .i64 ep], .int .i64 e]) ∧ Below w.heap.size w w' := by
  have := decodeTen_any s hs w
  unfold decTV tnV at this
  rw [h] at this
  exact this
set_option maxHeartbeats 1000000 in
set_option maxRecDepth 100000 in
theorem is_yes (rep : ByteArray) (hr : rep.size ≤ 140737488351232) (ep tm : Int) (gone : Bool) (s : ByteArray) (hs : s.size ≤ 140737488351232) (hm : mayRec rep ep tm = true) (hb : strOfNums (recBytes rep ep tm gone) = s) (hd : decRc s.data.toList = (rcOf rep ep tm gone, 0)) (w : World) :
    Calls Try.prog 89 #[.agg #[.string rep, .int .i64 ep, .int .i64 tm, .bool gone], .string s] w fun e w' => e = .returned (.bool true) ∧ Below w.heap.size w w' := by
  have h1 := fun W => encYes rep hr ep tm gone hm W
  rw [hb] at h1
  have H1 := Lib.hid h1
  have H2 := Lib.hid (fun W => decAs s hs rep ep tm gone 0 hd W)
  clear h1 hb hd hm
  go_enter Try.func89, Try.ntmps89
  go_wp2_with fail
  refine (H1.out _).mono ?_
  rintro e w1 ⟨rfl, hb1⟩
  have HB1 := Lib.hid (below_next0 ((Below.refl _ _).alloc (Nat.le_refl _) _) hb1)
  have HP1 := Lib.hid ((hb1.block w.heap.size (by simp)).trans (heap_alloc_new w _))
  clear hb1
  go_wp2_with fail
  refine (H2.out _).mono ?_
  rintro e w2 ⟨rfl, hb2⟩
  have HP2 := Lib.hid ((hb2.block w.heap.size (blk_lt HP1.out)).trans HP1.out)
  have hlt := blk_lt HP2.out
  have hcp0 := blk_cell HP2.out 0
  have hcp1 := blk_cell HP2.out 1
  have hcp2 := blk_cell HP2.out 2
  have hcp3 := blk_cell HP2.out 3
  simp at hcp0 hcp1 hcp2 hcp3
  go_wp2
  go_ret
  exact ⟨by first | rfl | (simp; done), (below_next0 HB1.out hb2).alloc (Nat.le_trans HB1.out.size hb2.size) _⟩
set_option maxHeartbeats 1000000 in
set_option maxRecDepth 100000 in
theorem refused_yes (s : ByteArray) (hs : s.size ≤ 140737488351232) (e f : Int) (h1 : e ≠ 0) (h2 : f ≠ 0) (hd : decRc s.data.toList = (noRc, e)) (ht : decTn s.data.toList = (noTn, f)) (w : World) :
    Calls Try.prog 93 #[.string s, .int .i64 e, .int .i64 f] w fun r w' => r = .returned (.bool true) ∧ Below w.heap.size w w' := by
  have H1 := Lib.hid (fun W => decAs s hs ⟨#[]⟩ 0 0 false e hd W)
  have H2 := Lib.hid (fun W => decTAs s hs 0 0 f ht W)
  have e1 : (e == 0) = false := beq_eq_false_iff_ne.2 h1
  have e2 : (f == 0) = false := beq_eq_false_iff_ne.2 h2
  clear hd ht
  go_enter Try.func93, Try.ntmps93
  go_wp2_with fail
  refine (H1.out _).mono ?_
  rintro r w1 ⟨rfl, hb1⟩
  go_wp2_with fail
  refine (H2.out _).mono ?_
  rintro r w2 ⟨rfl, hb2⟩
  have HX2 := Lib.hid ((hb2.block w1.heap.size (by simp)).trans (heap_alloc_new w1 _))
  have hlt := blk_lt HX2.out
  have hcx0 := blk_cell HX2.out 0
  have hcx1 := blk_cell HX2.out 1
  have hcx2 := blk_cell HX2.out 2
  have hcx3 := blk_cell HX2.out 3
  simp at hcx0 hcx1 hcx2 hcx3
  go_wp2
  go_ret
  have k1 := (below_alloc (below_next0 (Below.refl w.heap.size w) hb1) (.cells #[.string ⟨#[]⟩, .int .i64 0, .int .i64 0, .bool false] 23)).trans (hb2.mono (by have := hb1.size; simp; omega))
  exact ⟨by first | rfl | (simp; done), k1.alloc k1.size _⟩
theorem encTYes (live ep : Int) (h : mayTen live ep = true) (s : ByteArray) (hs : strOfNums (tenBytes live ep) = s) (w : World) :
    Calls Try.prog 83 #[.agg #[.int .i64 live, .int .i64 ep]] w fun e w' => e = .returned (.tuple #[.string s, .int .i64 0]) ∧ Below w.heap.size w w' := by
  have := encodeTen_any live ep w
  unfold encTenRes at this
  rwa [if_pos h, hs] at this
theorem readAs (key val : ByteArray) (hk : key.size ≤ 140737488351232) (hv : val.size ≤ 140737488351232) (ten cl rep : ByteArray) (ep tm : Int) (gone : Bool) (live eps e : Int)
    (h : readIt key.data.toList val.data.toList = (⟨ten.data.toList, cl.data.toList, rcOf rep ep tm gone, ⟨live, eps⟩⟩, e)) (w : World) :
    Calls Try.prog 79 #[.string key, .string val] w fun r w' => r = .returned (.tuple #[.agg #[.string ten, .string cl, .string rep, .int .i64 ep, .int .i64 tm, .bool gone, .int .i64 live, .int .i64 eps], .int .i64 e]) ∧ Below w.heap.size w w' := by
  have := readRec_any key val hk hv w
  unfold itR itV at this
  rw [h] at this
  exact this
theorem tenBytes_27 : strOfNums (tenBytes 2 7) = ⟨#[2, 7]⟩ := by
  unfold tenBytes
  rw [vint_small (by decide), vint_small (by decide)]
  rfl
theorem recBytes_of (gone : Bool) : strOfNums (recBytes ⟨#[114]⟩ 300 5 gone) = if gone then ⟨#[1, 114, 172, 2, 5, 1]⟩ else ⟨#[1, 114, 172, 2, 5, 0]⟩ := by
  unfold recBytes txt
  rw [show (⟨#[114]⟩ : ByteArray).size = 1 from rfl, show (300 : Int).toNat = 300 from rfl, show (5 : Int).toNat = 5 from rfl, vint_small (n := 1) (by decide), vint_small (n := 5) (by decide), vint_big (n := 300) (by decide), show 300 / 128 = 2 from rfl, vint_small (n := 2) (by decide)]
  cases gone <;> rfl
theorem is_of (gone : Bool) (w : World) : Calls Try.prog 89 #[.agg #[.string ⟨#[114]⟩, .int .i64 300, .int .i64 5, .bool gone], .string (if gone then ⟨#[1, 114, 172, 2, 5, 1]⟩ else ⟨#[1, 114, 172, 2, 5, 0]⟩)] w fun e w' => e = .returned (.bool true) ∧ Below w.heap.size w w' :=
  is_yes ⟨#[114]⟩ (by decide) 300 5 gone _ (by cases gone <;> decide) (by decide +kernel) (recBytes_of gone) (by cases gone <;> decide +kernel) w
theorem is_of0 (w : World) : Calls Try.prog 89 #[.agg #[.string ⟨#[114]⟩, .int .i64 300, .int .i64 5, .bool false], .string ⟨#[1, 114, 172, 2, 5, 0]⟩] w fun e w' => e = .returned (.bool true) ∧ Below w.heap.size w w' := is_of false w
theorem is_of1 (w : World) : Calls Try.prog 89 #[.agg #[.string ⟨#[114]⟩, .int .i64 300, .int .i64 5, .bool true], .string ⟨#[1, 114, 172, 2, 5, 1]⟩] w fun e w' => e = .returned (.bool true) ∧ Below w.heap.size w w' := is_of true w
theorem of_any (gone : Bool) (w : World) : Calls Try.prog 141 #[.bool gone] w fun e w' => e = .returned (.agg #[.string ⟨#[114]⟩, .int .i64 300, .int .i64 5, .bool gone]) ∧ Below w.heap.size w w' :=
  batonlaw18_of.calls gone _ _ _ _ w rfl
attribute [local go_sem ↓] Go.wp_at_zero Go.wp_at_succ
set_option maxHeartbeats 1000000 in
set_option maxRecDepth 100000 in
theorem awake_any (w : World) : Calls Try.prog 74 #[] w fun e w' => e = .returned (.bool true) ∧ Below w.heap.size w w' := by
  go_enter Try.func74, Try.ntmps74
  go_wp2_with fail
  refine (encTYes 2 7 (by decide) ⟨#[2, 7]⟩ tenBytes_27 _).mono ?_
  rintro e w1 ⟨rfl, hb1⟩
  go_wp2_with fail
  refine (decTAs ⟨#[3, 2]⟩ (by decide) 0 0 4 (by decide +kernel) _).mono ?_
  rintro e w2 ⟨rfl, hb2⟩
  have HB2 := Lib.hid (below_next0 hb1 hb2)
  clear hb1 hb2
  go_wp2_with fail
  refine (readAs ⟨#[99, 47, 116, 47, 120]⟩ ⟨#[1, 114, 172, 2, 5, 0]⟩ (by decide) (by decide) ⟨#[116]⟩ ⟨#[120]⟩ ⟨#[114]⟩ 300 5 false 0 0 0 (by decide +kernel) _).mono ?_
  rintro e w3 ⟨rfl, hb3⟩
  have HB3 := Lib.hid ((HB2.out.alloc HB2.out.size _).trans (hb3.mono (by have := HB2.out.size; simp; omega)))
  clear hb3 HB2
  go_wp2_with fail
  refine (readAs ⟨#[120]⟩ ⟨#[]⟩ (by decide) (by decide) ⟨#[]⟩ ⟨#[]⟩ ⟨#[]⟩ 0 0 false 0 0 1 (by decide +kernel) _).mono ?_
  rintro e w4 ⟨rfl, hb4⟩
  have HX4 := Lib.hid ((hb4.block w3.heap.size (by simp)).trans (heap_alloc_new w3 _))
  have HB4 := Lib.hid ((HB3.out.alloc HB3.out.size _).trans (hb4.mono (by have := HB3.out.size; simp; omega)))
  clear hb4 HB3
  have hbw := HB4.out
  have hx4 := HX4.out
  generalize w3.heap.size = X at *
  clear hx4
  have hc0 : w4.cell? ⟨X, 0, none⟩ = some (.string ⟨#[116]⟩) := blk_cell HX4.out 0
  have hc1 : w4.cell? ⟨X, 1, none⟩ = some (.string ⟨#[120]⟩) := blk_cell HX4.out 1
  have hc2 : w4.cell? ⟨X, 2, none⟩ = some (.string ⟨#[114]⟩) := blk_cell HX4.out 2
  have hc3 : w4.cell? ⟨X, 3, none⟩ = some (.int .i64 300) := blk_cell HX4.out 3
  have hc4 : w4.cell? ⟨X, 4, none⟩ = some (.int .i64 5) := blk_cell HX4.out 4
  have hc5 : w4.cell? ⟨X, 5, none⟩ = some (.bool false) := blk_cell HX4.out 5
  have hc6 : w4.cell? ⟨X, 6, none⟩ = some (.int .i64 0) := blk_cell HX4.out 6
  have hc7 : w4.cell? ⟨X, 7, none⟩ = some (.int .i64 0) := blk_cell HX4.out 7
  go_wp2_with fail
  have hbw := hbw.alloc hbw.size (.cells #[.string ⟨#[]⟩, .string ⟨#[]⟩, .string ⟨#[]⟩, .int .i64 0, .int .i64 0, .bool false, .int .i64 0, .int .i64 0] 113)
  go_region_held3 (fun W => W.cell? ⟨X, 0, none⟩ = some (.string ⟨#[116]⟩) ∧ W.cell? ⟨X, 1, none⟩ = some (.string ⟨#[120]⟩) ∧ W.cell? ⟨X, 2, none⟩ = some (.string ⟨#[114]⟩) ∧ W.cell? ⟨X, 3, none⟩ = some (.int .i64 300) ∧ W.cell? ⟨X, 4, none⟩ = some (.int .i64 5) ∧ W.cell? ⟨X, 5, none⟩ = some (.bool false) ∧ W.cell? ⟨X, 6, none⟩ = some (.int .i64 0) ∧ W.cell? ⟨X, 7, none⟩ = some (.int .i64 0)) (go_keep) (first | (go_at_call 141; (with_reducible refine (of_any _ _).mono ?_); rintro e x5 ⟨rfl, hb5⟩; have d0 := keep_cell (a := ⟨X, 0, none⟩) (v := .string ⟨#[116]⟩) hb5 (by simp [*]); have d1 := keep_cell (a := ⟨X, 1, none⟩) (v := .string ⟨#[120]⟩) hb5 (by simp [*]); have d2 := keep_cell (a := ⟨X, 2, none⟩) (v := .string ⟨#[114]⟩) hb5 (by simp [*]); have d3 := keep_cell (a := ⟨X, 3, none⟩) (v := .int .i64 300) hb5 (by simp [*]); have d4 := keep_cell (a := ⟨X, 4, none⟩) (v := .int .i64 5) hb5 (by simp [*]); have d5 := keep_cell (a := ⟨X, 5, none⟩) (v := .bool false) hb5 (by simp [*]); have d6 := keep_cell (a := ⟨X, 6, none⟩) (v := .int .i64 0) hb5 (by simp [*]); have d7 := keep_cell (a := ⟨X, 7, none⟩) (v := .int .i64 0) hb5 (by simp [*]); (first | have hbw := below_next0 hbw hb5 | have hbw := below_next hbw hb5)) | (go_at_call 89; (with_reducible refine (is_of0 _).mono ?_); rintro e x5 ⟨rfl, hb5⟩; have d0 := keep_cell (a := ⟨X, 0, none⟩) (v := .string ⟨#[116]⟩) hb5 (by simp [*]); have d1 := keep_cell (a := ⟨X, 1, none⟩) (v := .string ⟨#[120]⟩) hb5 (by simp [*]); have d2 := keep_cell (a := ⟨X, 2, none⟩) (v := .string ⟨#[114]⟩) hb5 (by simp [*]); have d3 := keep_cell (a := ⟨X, 3, none⟩) (v := .int .i64 300) hb5 (by simp [*]); have d4 := keep_cell (a := ⟨X, 4, none⟩) (v := .int .i64 5) hb5 (by simp [*]); have d5 := keep_cell (a := ⟨X, 5, none⟩) (v := .bool false) hb5 (by simp [*]); have d6 := keep_cell (a := ⟨X, 6, none⟩) (v := .int .i64 0) hb5 (by simp [*]); have d7 := keep_cell (a := ⟨X, 7, none⟩) (v := .int .i64 0) hb5 (by simp [*]); (first | have hbw := below_next0 hbw hb5 | have hbw := below_next hbw hb5)) | (go_at_call 89; (with_reducible refine (is_of1 _).mono ?_); rintro e x5 ⟨rfl, hb5⟩; have d0 := keep_cell (a := ⟨X, 0, none⟩) (v := .string ⟨#[116]⟩) hb5 (by simp [*]); have d1 := keep_cell (a := ⟨X, 1, none⟩) (v := .string ⟨#[120]⟩) hb5 (by simp [*]); have d2 := keep_cell (a := ⟨X, 2, none⟩) (v := .string ⟨#[114]⟩) hb5 (by simp [*]); have d3 := keep_cell (a := ⟨X, 3, none⟩) (v := .int .i64 300) hb5 (by simp [*]); have d4 := keep_cell (a := ⟨X, 4, none⟩) (v := .int .i64 5) hb5 (by simp [*]); have d5 := keep_cell (a := ⟨X, 5, none⟩) (v := .bool false) hb5 (by simp [*]); have d6 := keep_cell (a := ⟨X, 6, none⟩) (v := .int .i64 0) hb5 (by simp [*]); have d7 := keep_cell (a := ⟨X, 7, none⟩) (v := .int .i64 0) hb5 (by simp [*]); (first | have hbw := below_next0 hbw hb5 | have hbw := below_next hbw hb5)))
  go_wp2
  go_ret
  exact ⟨rfl, by first | exact hbw | exact pw_below_drewN hbw _⟩
end Go.Proofs.Ytobanhbjkomieaa.RP
