import Derived.Test.YtobanhbjkomieaaRD
import Derived.Test.YtobanhbjkomieaaRE
namespace Go.Proofs.Ytobanhbjkomieaa.RP
open Go.RowKit Go.Proofs.Ytobanhbjkomieaa.PAll Go.Proofs.Ytobanhbjkomieaa.KP Go.Proofs.Ytobanhbjkomieaa.BP Go.Proofs.YtobanhbjkomieaaW.PrintWords Go.Proofs.YtobanhbjkomieaaW.PrintLast Go.Proofs.YtobanhbjkomieaaW.PrintMore
open Go.Proofs.Ytobanhbjkomieaa.PRd (IsS225)
set_option linter.unusedSimpArgs false
set_option linter.unusedVariables false
/-! ### decode -/
theorem results_cell_tmp {P : Program} {fn : Func} {p q : Tmp} {ty : TypeId} (h : fn.results = #[.cell p ty, .tmp q]) (tmps : Array Value) (w : World) (g : Nat) (t : TypeId) (cs : Array Value) (fr : Nat × Nat) (d : TypeDesc) (v : Value)
    (hp : tmps.getD p undef = .pointer (some ⟨g, 0, none⟩)) (hq : tmps.getD q undef = v) (hg : w.heap[g]? = some (.cells cs t fr))
    (hu : P.underlying ty = some d) (hd : (match d with | .struct _ | .array _ _ => true | _ => false) = true) (hi : (P.info? ty).map (·.size) = some cs.size) :
    (results fn tmps).run P w = .ok (.tuple #[.agg cs, v]) w := by
  have hp' : tmps[p]?.getD undef = .pointer (some ⟨g, 0, none⟩) := by simpa using hp
  have hq' : tmps[q]?.getD undef = v := by simpa using hq
  simp [results, h, hp', hq', asAddr, run_loadVar_row w g t ty cs fr d hg hu hd hi]
theorem heap_alloc_at (w : World) (o : Obj) {n : Nat} (h : w.heap.size = n) : (w.alloc o).heap[n]? = some o := h ▸ heap_alloc_new w o
theorem blk_put4 {w : World} {g : Nat} {t : TypeId} {a b c d a' b' c' d' : Value} (h : w.heap[g]? = some (.cells #[a, b, c, d] t (0, 0))) :
    ((((w.setCell ⟨g, 0, none⟩ a').setCell ⟨g, 1, none⟩ b').setCell ⟨g, 2, none⟩ c').setCell ⟨g, 3, none⟩ d').heap[g]? = some (.cells #[a', b', c', d'] t (0, 0)) :=
  blk_put (blk_put (blk_put (blk_put h 0 a' rfl) 1 b' rfl) 2 c' rfl) 3 d' rfl
theorem blk_put2 {w : World} {g : Nat} {t : TypeId} {a b a' b' : Value} (h : w.heap[g]? = some (.cells #[a, b] t (0, 0))) :
    ((w.setCell ⟨g, 0, none⟩ a').setCell ⟨g, 1, none⟩ b').heap[g]? = some (.cells #[a', b'] t (0, 0)) :=
  blk_put (blk_put h 0 a' rfl) 1 b' rfl
theorem new_any (s : ByteArray) (w : World) : Calls Try.prog 179 #[.string s] w fun e w' => e = .returned (.pointer (some ⟨w.heap.size, 0, none⟩)) ∧ w' = w.alloc (.cells #[.string s, .int .i64 0, .int .i64 0] 225) := by
  go_enter Try.func179, Try.ntmps179
  go_wp2
  go_ret
  exact ⟨rfl, rfl⟩
theorem rdErr_any (s : ByteArray) (g p : Nat) (e : Int) (w0 w : World) (hI : IsS225 w0 w g s p e) (hB : Below w0.heap.size w0 w) :
    Calls Try.prog 180 #[.pointer (some ⟨g, 0, none⟩)] w fun r w' => r = .returned (.int .i64 e) ∧ IsS225 w0 w' g s p e ∧ Below w0.heap.size w0 w' ∧ KeepBut w w' g none :=
  PRd.bits_Reader_Err.calls g _ _ _ _ _ _ _ w0 w hI hB rfl
theorem rdLeft_any (s : ByteArray) (hs : s.size ≤ 140737488351232) (g p : Nat) (hp : p ≤ s.size) (e : Int) (w0 w : World) (hI : IsS225 w0 w g s p e) (hB : Below w0.heap.size w0 w) :
    Calls Try.prog 181 #[.pointer (some ⟨g, 0, none⟩)] w fun r w' => r = .returned (.int .i64 ((s.size - p : Nat) : Int)) ∧ IsS225 w0 w' g s p e ∧ Below w0.heap.size w0 w' ∧ KeepBut w w' g none := by
  have h : PRd.bits_Reader_Left.f s p e = some (((s.size - p : Nat) : Int), s, (p : Int), e) := by
    unfold PRd.bits_Reader_Left.f
    have : wrap64 ((s.size : Int) - p) = ((s.size - p : Nat) : Int) := by unfold wrap64; omega
    rw [this]
  exact PRd.bits_Reader_Left.calls g _ _ _ _ _ _ _ w0 w hI hB h
/-- A record that is read: its cells. -/
def rcV (r : Rc) : Value := .agg #[.string ⟨r.rep.toArray⟩, .int .i64 r.ep, .int .i64 r.tm, .bool r.gone]
def tnV (t : Tn) : Value := .agg #[.int .i64 t.live, .int .i64 t.ep]
set_option maxHeartbeats 1000000 in
set_option maxRecDepth 100000 in
theorem dec1_any (rep : ByteArray) (hs : rep.size ≤ 140737488351232) (ep tm : Int) (gone : Bool) (b : Nat) (y : Nat) (w : World) (hb : w.heap[b]? = some (.cells #[.int .u8 y] 5 (0, 0))) :
    Calls Try.prog 143 #[.agg #[.string rep, .int .i64 ep, .int .i64 tm, .bool gone], .pointer (some ⟨b, 0, none⟩)] w fun e w' => e = .returned (.bool (decide (y ≤ 1) && mayRec rep ep tm)) ∧ Below w.heap.size w w' := by
  have hm := fun W => recMay_any rep hs ep tm gone W
  have HM := Lib.hid hm
  clear hm
  have hlt := blk_lt hb
  have hc : (w.alloc (.cells #[.string rep, .int .i64 ep, .int .i64 tm, .bool gone] 23)).cell? ⟨b, 0, none⟩ = some (.int .u8 y) := by
    rw [blk_cell (blk_alloc hb _) 0]; rfl
  by_cases h : y ≤ 1
  · have he : decide ((y : Int) ≤ 1) = true := decide_eq_true (by omega)
    have h1 : ((y : Int) ≤ 1) = True := eq_true (by omega)
    rw [decide_eq_true h, Bool.true_and]
    go_enter Try.func143, Try.ntmps143
    go_wp2_with fail
    refine (HM.out _).mono ?_
    rintro e w1 ⟨rfl, hb1⟩
    go_wp2
    go_ret
    exact ⟨rfl, below_next0 ((Below.refl _ _).alloc (Nat.le_refl _) _) hb1⟩
  · have he : decide ((y : Int) ≤ 1) = false := decide_eq_false (by omega)
    have h1 : ((y : Int) ≤ 1) = False := eq_false (by omega)
    rw [decide_eq_false h, Bool.false_and]
    go_enter Try.func143, Try.ntmps143
    go_wp2
    go_ret
    exact ⟨rfl, (Below.refl _ _).alloc (Nat.le_refl _) _⟩
theorem dec2_any (s : ByteArray) (hs : s.size ≤ 140737488351232) (g b : Nat) (x : Int) (w0 w : World) (hI : IsS225 w0 w g s 0 0) (hB : Below w0.heap.size w0 w)
    (hb : w.heap[b]? = some (.cells #[.int .u8 x] 5 (0, 0))) (hbl : w0.heap.size ≤ b) (hne : b ≠ g) :
    Calls Try.prog 144 #[.pointer (some ⟨g, 0, none⟩), .pointer (some ⟨b, 0, none⟩)] w fun r w' =>
      r = .returned (.agg #[.string ⟨(recR s.data.toList 0 0).1.1.toArray⟩, .int .i64 (recR s.data.toList 0 0).1.2.1, .int .i64 (recR s.data.toList 0 0).1.2.2.1, .bool (decide ((recR s.data.toList 0 0).1.2.2.2 = 1))]) ∧
      IsS225 w0 w' g s (recR s.data.toList 0 0).2.1 (recR s.data.toList 0 0).2.2 ∧ w'.heap[b]? = some (.cells #[.int .u8 (recR s.data.toList 0 0).1.2.2.2] 5 (0, 0)) ∧ Below w0.heap.size w0 w' ∧ Kept w w' (fun k => k = g ∨ k = b) := by
  have hl : s.data.toList.length = s.size := data_length s
  have b1 := rdT_bd (s := s.data.toList) (p := 0) (by omega) 0 24
  have b2 := rdV_bd b1.1 (rdT s.data.toList 0 0 24).2.2 1099511627776
  have b3 := rdV_bd b2.1 (rdV s.data.toList (rdT s.data.toList 0 0 24).2.1 (rdT s.data.toList 0 0 24).2.2 1099511627776).2.2 1125899906842624
  have c1 := b1.1
  have c2 := b2.1
  have c3 := b3.1
  rw [hl] at c1 c2 c3
  exact dec2_gen s g b x w0 w (rdT s.data.toList 0 0 24) (rdV s.data.toList (rdT s.data.toList 0 0 24).2.1 (rdT s.data.toList 0 0 24).2.2 1099511627776)
    (rdV s.data.toList (rdV s.data.toList (rdT s.data.toList 0 0 24).2.1 (rdT s.data.toList 0 0 24).2.2 1099511627776).2.1 (rdV s.data.toList (rdT s.data.toList 0 0 24).2.1 (rdT s.data.toList 0 0 24).2.2 1099511627776).2.2 1125899906842624)
    (rdB s.data.toList _ _) b2.2 b3.2
    (fun W h k => rdText_any s hs g 0 (by omega) 0 w0 W 24 (by omega) h k)
    (fun W h k => rdVarint_any s hs g _ c1 _ w0 W 1099511627776 h k)
    (fun W h k => rdVarint_any s hs g _ c2 _ w0 W 1125899906842624 h k)
    (fun W h k => rdByte_any s hs g _ c3 _ w0 W h k)
    hI hB hb hbl hne
/-- What decode says of a record's bytes. -/
def decV (s : List UInt8) : Value := .tuple #[rcV (decRc s).1, .int .i64 (decRc s).2]
def decTV (s : List UInt8) : Value := .tuple #[tnV (decTn s).1, .int .i64 (decTn s).2]
theorem recR_bd {s : List UInt8} : (recR s 0 0).2.1 ≤ s.length ∧ (recR s 0 0).1.1.length ≤ 24 := by
  have b1 := rdT_bd (s := s) (p := 0) (by omega) 0 24
  have b2 := rdV_bd b1.1 (rdT s 0 0 24).2.2 1099511627776
  have b3 := rdV_bd b2.1 (rdV s (rdT s 0 0 24).2.1 (rdT s 0 0 24).2.2 1099511627776).2.2 1125899906842624
  exact ⟨(rdB_bd b3.1 _).1, b1.2⟩
set_option maxHeartbeats 4000000 in
set_option maxRecDepth 100000 in
theorem decodeRec_gen (s : ByteArray) (hs : s.size ≤ 140737488351232) (b p : Nat) (err : Int) (rep : List UInt8) (ep tm y : Nat) (w0 w : World) (hp : p ≤ s.size) (hrep : rep.length ≤ 24)
    (c2 : ∀ g W, IsS225 w0 W g s 0 0 → Below w0.heap.size w0 W → W.heap[b]? = some (.cells #[.int .u8 0] 5 (0, 0)) → b ≠ g →
      Calls Try.prog 144 #[.pointer (some ⟨g, 0, none⟩), .pointer (some ⟨b, 0, none⟩)] W fun r w' =>
        r = .returned (.agg #[.string ⟨rep.toArray⟩, .int .i64 ep, .int .i64 tm, .bool (decide (y = 1))]) ∧ IsS225 w0 w' g s p err ∧ w'.heap[b]? = some (.cells #[.int .u8 y] 5 (0, 0)) ∧ Below w0.heap.size w0 w' ∧ Kept W w' (fun k => k = g ∨ k = b))
    (hB : Below w0.heap.size w0 w) (hb : w.heap[b]? = some (.cells #[.int .u8 0] 5 (0, 0))) (hbl : w0.heap.size ≤ b) (r : Rc) (ec : Int)
    (hr : (r, ec) = if err ≠ 0 then (noRc, err) else if p < s.size ∨ 1 < y ∨ mayRec ⟨rep.toArray⟩ ep tm = false then (noRc, 4) else (⟨rep, ep, tm, decide (y = 1)⟩, 0)) :
    Calls Try.prog 142 #[.string s, .func (.func 143) #[] #[.pointer (some ⟨b, 0, none⟩)], .func (.func 144) #[] #[.pointer (some ⟨b, 0, none⟩)]] w fun e w' =>
      e = .returned (.tuple #[rcV r, .int .i64 ec]) ∧ Below w0.heap.size w0 w' ∧ Kept w w' (fun k => k = b) := by
  have C2 := Lib.hid c2
  have HR := Lib.hid hr
  have HB := Lib.hid hb
  have hblt := blk_lt hb
  clear c2 hr hb
  go_enter Try.func142, Try.ntmps142
  go_wp2_with fail
  refine (new_any _ _).mono ?_
  rintro e w1 ⟨rfl, rfl⟩
  go_wp2_with fail
  refine (C2.out _ _ ?_ ?_ ?_ ?_).mono ?_
  · exact ⟨heap_alloc_at _ _ (by simp), by have := hB.size; omega⟩
  · exact below_alloc (below_alloc (below_alloc hB _) _) _
  · exact blk_alloc (blk_alloc (blk_alloc HB.out _) _) _
  · simp; omega
  rintro e w2 ⟨rfl, hI2, hb2, hB2, hK2⟩
  have hR2 : w2.heap[w.heap.size]? = some (.cells #[.string ⟨#[]⟩, .int .i64 0, .int .i64 0, .bool false] 23 (0, 0)) := blk_kept (blk_alloc (blk_alloc (heap_alloc_new w _) _) _) hK2 (by simp; omega)
  have hZ2 : w2.heap[w.heap.size + 1]? = some (.cells #[.string ⟨#[]⟩, .int .i64 0, .int .i64 0, .bool false] 23 (0, 0)) := blk_kept (blk_alloc (heap_alloc2_new w _ _) _) hK2 (by simp; omega)
  have P2 := Lib.hid (((((Kept.refl w (fun k => k = b)).alloc _).alloc _).alloc _).then_ hK2 (fun k hk => hk.elim (fun h => .inr (by subst h; omega)) .inl))
  have HR2 := Lib.hid hR2
  have HZ2 := Lib.hid hZ2
  have HG2 := Lib.hid hb2
  clear hR2 hZ2 hb2 hK2
  go_wp2_with fail
  refine (rdErr_any s _ p err w0 _ (hI2.alloc _) (below_alloc hB2 _)).mono ?_
  rintro e w3 ⟨rfl, hI3, hB3, hK3⟩
  have hX3 := (hK3.2 w2.heap.size (by simp) (by have := hI2.lt; omega) (by simp)).trans (heap_alloc_new w2 _)
  have hR3 := (hK3.2 w.heap.size (by have := blk_lt HR2.out; simp; omega) (by omega) (by simp)).trans (blk_alloc HR2.out _)
  have hZ3 := (hK3.2 (w.heap.size + 1) (by have := blk_lt HZ2.out; simp; omega) (by omega) (by simp)).trans (blk_alloc HZ2.out _)
  have hG3 := (hK3.2 b (by have := blk_lt HG2.out; simp; omega) (by omega) (by simp)).trans (blk_alloc HG2.out _)
  have z2 := hI2.lt
  have zw := hB.size
  have P3 := Lib.hid ((P2.out.alloc _).of_keep hK3 (.inr (by omega)))
  have HX3 := Lib.hid hX3
  have HR3 := Lib.hid hR3
  have HZ3 := Lib.hid hZ3
  have HG3 := Lib.hid hG3
  clear hX3 hR3 hZ3 hG3 hK3 hI2 hB2 HR2 HZ2 HG2
  generalize hX : w2.heap.size = X at *
  generalize hRr : w.heap.size = R at *
  by_cases he : err = 0
  · subst he
    go_wp2_with fail
    refine (rdLeft_any s hs _ p hp 0 w0 _ hI3 hB3).mono ?_
    rintro e w4 ⟨rfl, hI4, hB4, hK4⟩
    have HX4 := Lib.hid ((hK4.2 X (blk_lt HX3.out) (by omega) (by simp)).trans HX3.out)
    have HR4 := Lib.hid ((hK4.2 R (blk_lt HR3.out) (by omega) (by simp)).trans HR3.out)
    have HZ4 := Lib.hid ((hK4.2 (R + 1) (blk_lt HZ3.out) (by omega) (by simp)).trans HZ3.out)
    have HG4 := Lib.hid ((hK4.2 b (blk_lt HG3.out) (by omega) (by simp)).trans HG3.out)
    have P4 := Lib.hid (P3.out.of_keep hK4 (.inr (by omega)))
    clear hK4 HX3 HR3 HZ3 HG3 hB3
    by_cases hlt : p < s.size
    · have hg1 : ((0 : Int) < ((s.size - p : Nat) : Int)) = True := eq_true (by omega)
      have hg2 : decide ((0 : Int) < ((s.size - p : Nat) : Int)) = true := decide_eq_true (by omega)
      have hg3 : decide (0 < s.size - p) = true := decide_eq_true (by omega)
      have hcz0 := blk_cell HZ4.out 0
      have hcz1 := blk_cell HZ4.out 1
      have hcz2 := blk_cell HZ4.out 2
      have hcz3 := blk_cell HZ4.out 3
      have hcr0 := blk_cell HR4.out 0
      have hcr1 := blk_cell HR4.out 1
      have hcr2 := blk_cell HR4.out 2
      have hcr3 := blk_cell HR4.out 3
      have hfr0 := blk_frozen HR4.out 0
      have hfr1 := blk_frozen HR4.out 1
      have hfr2 := blk_frozen HR4.out 2
      have hfr3 := blk_frozen HR4.out 3
      simp at hcz0 hcz1 hcz2 hcz3 hcr0 hcr1 hcr2 hcr3
      go_wp2_with fail
      refine bodyPost_ret (results_cell_tmp rfl _ _ R 23 _ (0, 0) _ _ rfl rfl (blk_put4 HR4.out) Try.underlying23 rfl (by kernel_rfl)) rfl ?_
      have hr := HR.out
      rw [if_neg (by simp), if_pos (.inl hlt)] at hr
      obtain ⟨rfl, rfl⟩ := Prod.mk.inj hr
      refine ⟨rfl, ?_, ?_⟩
      · iterate 4 refine below_set ?_ zw
        exact hB4
      · have q : w.heap.size ≤ R := Nat.le_of_eq hRr
        iterate 4 refine Kept.setCell ?_ (.inr q) _
        exact P4.out
    · have hg1 : ((0 : Int) < ((s.size - p : Nat) : Int)) = False := eq_false (by omega)
      have hg2 : decide ((0 : Int) < ((s.size - p : Nat) : Int)) = false := decide_eq_false (by omega)
      have hg3 : decide (0 < s.size - p) = false := decide_eq_false (by omega)
      have hd1 := fun W h => dec1_any ⟨rep.toArray⟩ (by rw [size_mk]; omega) ep tm (decide (y = 1)) b y W h
      have HD1 := Lib.hid hd1
      clear hd1
      have hcx0 := blk_cell HX4.out 0
      have hcx1 := blk_cell HX4.out 1
      have hcx2 := blk_cell HX4.out 2
      have hcx3 := blk_cell HX4.out 3
      simp at hcx0 hcx1 hcx2 hcx3
      go_wp2_with fail
      refine (HD1.out _ HG4.out).mono ?_
      rintro e w5 ⟨rfl, hb5⟩
      have hB5 := below_next0 hB4 hb5
      have HR5 := Lib.hid ((hb5.block R (blk_lt HR4.out)).trans HR4.out)
      have HZ5 := Lib.hid ((hb5.block (R + 1) (blk_lt HZ4.out)).trans HZ4.out)
      have HX5 := Lib.hid ((hb5.block X (blk_lt HX4.out)).trans HX4.out)
      have P5 := Lib.hid (P4.out.below hb5)
      clear hb5 HX4 HR4 HZ4 HG4 hcx0 hcx1 hcx2 hcx3
      by_cases hm : (decide (y ≤ 1) && mayRec ⟨rep.toArray⟩ ep tm) = true
      · rw [hm]
        have hcx0 := blk_cell HX5.out 0
        have hcx1 := blk_cell HX5.out 1
        have hcx2 := blk_cell HX5.out 2
        have hcx3 := blk_cell HX5.out 3
        have hcr0 := blk_cell HR5.out 0
        have hcr1 := blk_cell HR5.out 1
        have hcr2 := blk_cell HR5.out 2
        have hcr3 := blk_cell HR5.out 3
        have hfr0 := blk_frozen HR5.out 0
        have hfr1 := blk_frozen HR5.out 1
        have hfr2 := blk_frozen HR5.out 2
        have hfr3 := blk_frozen HR5.out 3
        simp at hcx0 hcx1 hcx2 hcx3 hcr0 hcr1 hcr2 hcr3
        go_wp2_with fail
        refine bodyPost_ret (results_cell_tmp rfl _ _ R 23 _ (0, 0) _ _ rfl rfl (blk_put4 HR5.out) Try.underlying23 rfl (by kernel_rfl)) rfl ?_
        have hr := HR.out
        rw [Bool.and_eq_true, decide_eq_true_eq] at hm
        rw [if_neg (by simp), if_neg (by rw [hm.2]; simp; omega)] at hr
        obtain ⟨rfl, rfl⟩ := Prod.mk.inj hr
        refine ⟨rfl, ?_, ?_⟩
        · iterate 4 refine below_set ?_ zw
          exact hB5
        · have q : w.heap.size ≤ R := Nat.le_of_eq hRr
          iterate 4 refine Kept.setCell ?_ (.inr q) _
          exact P5.out
      · rw [Bool.not_eq_true] at hm
        rw [hm]
        have hcz0 := blk_cell HZ5.out 0
        have hcz1 := blk_cell HZ5.out 1
        have hcz2 := blk_cell HZ5.out 2
        have hcz3 := blk_cell HZ5.out 3
        have hcr0 := blk_cell HR5.out 0
        have hcr1 := blk_cell HR5.out 1
        have hcr2 := blk_cell HR5.out 2
        have hcr3 := blk_cell HR5.out 3
        have hfr0 := blk_frozen HR5.out 0
        have hfr1 := blk_frozen HR5.out 1
        have hfr2 := blk_frozen HR5.out 2
        have hfr3 := blk_frozen HR5.out 3
        simp at hcz0 hcz1 hcz2 hcz3 hcr0 hcr1 hcr2 hcr3
        go_wp2_with fail
        refine bodyPost_ret (results_cell_tmp rfl _ _ R 23 _ (0, 0) _ _ rfl rfl (blk_put4 HR5.out) Try.underlying23 rfl (by kernel_rfl)) rfl ?_
        have hr := HR.out
        rw [Bool.and_eq_false_iff, decide_eq_false_iff_not] at hm
        rw [if_neg (by simp), if_pos (.inr (hm.imp (fun h => by omega) id))] at hr
        obtain ⟨rfl, rfl⟩ := Prod.mk.inj hr
        refine ⟨rfl, ?_, ?_⟩
        · iterate 4 refine below_set ?_ zw
          exact hB5
        · have q : w.heap.size ≤ R := Nat.le_of_eq hRr
          iterate 4 refine Kept.setCell ?_ (.inr q) _
          exact P5.out
  · have he1 : (err == 0) = false := beq_eq_false_iff_ne.2 he
    have hcz0 := blk_cell HZ3.out 0
    have hcz1 := blk_cell HZ3.out 1
    have hcz2 := blk_cell HZ3.out 2
    have hcz3 := blk_cell HZ3.out 3
    have hcr0 := blk_cell HR3.out 0
    have hcr1 := blk_cell HR3.out 1
    have hcr2 := blk_cell HR3.out 2
    have hcr3 := blk_cell HR3.out 3
    have hfr0 := blk_frozen HR3.out 0
    have hfr1 := blk_frozen HR3.out 1
    have hfr2 := blk_frozen HR3.out 2
    have hfr3 := blk_frozen HR3.out 3
    simp at hcz0 hcz1 hcz2 hcz3 hcr0 hcr1 hcr2 hcr3
    go_wp2_with fail
    refine bodyPost_ret (results_cell_tmp rfl _ _ R 23 _ (0, 0) _ _ rfl rfl (blk_put4 HR3.out) Try.underlying23 rfl (by kernel_rfl)) rfl ?_
    have hr := HR.out
    rw [if_pos he] at hr
    obtain ⟨rfl, rfl⟩ := Prod.mk.inj hr
    refine ⟨rfl, ?_, ?_⟩
    · iterate 4 refine below_set ?_ zw
      exact hB3
    · have q : w.heap.size ≤ R := Nat.le_of_eq hRr
      iterate 4 refine Kept.setCell ?_ (.inr q) _
      exact P3.out
theorem decRc_eq (s : List UInt8) : ((decRc s).1, (decRc s).2) = if (recR s 0 0).2.2 ≠ 0 then (noRc, (recR s 0 0).2.2) else if (recR s 0 0).2.1 < s.length ∨ 1 < (recR s 0 0).1.2.2.2 ∨ mayRec ⟨(recR s 0 0).1.1.toArray⟩ (recR s 0 0).1.2.1 (recR s 0 0).1.2.2.1 = false then (noRc, 4)
    else (⟨(recR s 0 0).1.1, (recR s 0 0).1.2.1, (recR s 0 0).1.2.2.1, decide ((recR s 0 0).1.2.2.2 = 1)⟩, 0) := rfl
set_option maxHeartbeats 2000000 in
set_option maxRecDepth 100000 in
theorem decode_any (s : ByteArray) (hs : s.size ≤ 140737488351232) (w : World) :
    Calls Try.prog 75 #[.string s] w fun e w' => e = .returned (decV s.data.toList) ∧ Below w.heap.size w w' := by
  have hl : s.data.toList.length = s.size := data_length s
  have hbd := recR_bd (s := s.data.toList)
  have hp := hbd.1
  rw [hl] at hp
  have hq := decRc_eq s.data.toList
  rw [hl] at hq
  have hc := fun (b : Nat) (W : World) (hB : Below w.heap.size w W) (hb : W.heap[b]? = some (.cells #[.int .u8 0] 5 (0, 0))) (hbl : w.heap.size ≤ b) =>
    decodeRec_gen s hs b (recR s.data.toList 0 0).2.1 (recR s.data.toList 0 0).2.2 (recR s.data.toList 0 0).1.1 (recR s.data.toList 0 0).1.2.1 (recR s.data.toList 0 0).1.2.2.1 (recR s.data.toList 0 0).1.2.2.2 w W hp hbd.2
      (fun g W2 hI hB2 hb2 hne => dec2_any s hs g b 0 w W2 hI hB2 hb2 hbl hne) hB hb hbl _ _ hq
  have HC := Lib.hid hc
  unfold decV
  generalize (decRc s.data.toList).1 = r at *
  generalize (decRc s.data.toList).2 = ec at *
  clear hc hq hp hbd hl
  unfold rcV at *
  go_enter Try.func75, Try.ntmps75
  go_wp2_with fail
  refine (HC.out (w.heap.size + 1) _ ?_ ?_ ?_).mono ?_
  · exact below_alloc (below_alloc (Below.refl _ _) _) _
  · exact heap_alloc2_new _ _ _
  · omega
  rintro e w1 ⟨rfl, hb1, hk1⟩
  have HR1 := Lib.hid (blk_kept (blk_alloc (heap_alloc_new w _) _) hk1 (by omega))
  clear hk1
  have hcr0 := blk_cell HR1.out 0
  have hcr1 := blk_cell HR1.out 1
  have hcr2 := blk_cell HR1.out 2
  have hcr3 := blk_cell HR1.out 3
  have hfr0 := blk_frozen HR1.out 0
  have hfr1 := blk_frozen HR1.out 1
  have hfr2 := blk_frozen HR1.out 2
  have hfr3 := blk_frozen HR1.out 3
  simp at hcr0 hcr1 hcr2 hcr3
  go_wp2_with fail
  refine bodyPost_ret (results_cell_tmp rfl _ _ w.heap.size 23 _ (0, 0) _ _ rfl rfl (blk_put4 HR1.out) Try.underlying23 rfl (by kernel_rfl)) rfl ?_
  refine ⟨rfl, ?_⟩
  iterate 4 refine below_set ?_ (Nat.le_refl _)
  exact hb1
end Go.Proofs.Ytobanhbjkomieaa.RP
