import Derived.Test.YtobanhbjkomieaaRA
namespace Go.Proofs.Ytobanhbjkomieaa.RP
open Go.RowKit Go.Proofs.Ytobanhbjkomieaa.PAll Go.Proofs.Ytobanhbjkomieaa.KP Go.Proofs.Ytobanhbjkomieaa.BP Go.Proofs.YtobanhbjkomieaaW.PrintWords Go.Proofs.YtobanhbjkomieaaW.PrintLast Go.Proofs.YtobanhbjkomieaaW.PrintMore
set_option maxHeartbeats 8000000 in
set_option maxRecDepth 100000 in
theorem encPut_any (rep : ByteArray) (n m : Nat) (gone : Bool) (hs : rep.size ≤ 24) (hn : n < 18446744073709551616) (hm : m < 18446744073709551616) (hn0 : n ≤ 1125899906842624) (hm0 : m ≤ 1125899906842624) (w : World) :
    Calls Try.prog 156 #[.slice none 0 0, .agg #[.string rep, .int .i64 n, .int .i64 m, .bool gone]] w fun e w' => ∃ v', e = .returned v' ∧ w'.ownsRow w.heap.size 5 1 v' (recBytes rep n m gone).length (nums .u8 (recBytes rep n m gone)) ∧ Below w.heap.size w w' := by
  obtain ⟨i0, hi, hz0, hz1, hz2⟩ := info_parts info5'
  have hl1 := vint_len10 hn
  have hl2 := vint_len10 hm
  have hl0 := txt_len (s := rep) (by omega)
  have HE : Hid (∀ g : Int, g = (if gone then 1 else 0) → recBytes rep n m gone = txt rep ++ vint n ++ vint m ++ [g]) := by
    refine Lib.hid ?_
    rintro g rfl
    rfl
  have hw1 : IntKind.u64.wrap (n : Int) = n := by rw [IntKind.wrap_u64]; omega
  have hw2 : IntKind.u64.wrap (m : Int) = m := by rw [IntKind.wrap_u64]; omega
  go_enter Try.func156, Try.ntmps156
  go_wp2_with fail
  refine (putText_any (w.heap.size + 1) _ [] rep _ (World.ownsRow_nil _ _ _ _) (by simp) (by simp) (by omega)).mono ?_
  rintro e w1 ⟨v1, rfl, ho1, hb1⟩
  have c1 : w1.cell? ⟨w.heap.size, 1, none⟩ = some (.int .i64 n) := (hb1.cell (p := ⟨w.heap.size, 1, none⟩) (by simp)).trans (by simp)
  have c2 : w1.cell? ⟨w.heap.size, 2, none⟩ = some (.int .i64 m) := (hb1.cell (p := ⟨w.heap.size, 2, none⟩) (by simp)).trans (by simp)
  have c3 : w1.cell? ⟨w.heap.size, 3, none⟩ = some (.bool gone) := (hb1.cell (p := ⟨w.heap.size, 3, none⟩) (by simp)).trans (by simp)
  have z1 := hb1.size
  go_wp2_with fail
  refine (putUvarint_any (w.heap.size + 1) _ _ n _ ho1 (by simp at z1; omega) (by simp; omega) hn).mono ?_
  rintro e w2 ⟨v2, rfl, ho2, hb2⟩
  have d2 : w2.cell? ⟨w.heap.size, 2, none⟩ = some (.int .i64 m) := (hb2.cell (p := ⟨w.heap.size, 2, none⟩) (by simp)).trans c2
  have d3 : w2.cell? ⟨w.heap.size, 3, none⟩ = some (.bool gone) := (hb2.cell (p := ⟨w.heap.size, 3, none⟩) (by simp)).trans c3
  have z2 := hb2.size
  go_wp2_with fail
  refine (putUvarint_any (w.heap.size + 1) _ _ m _ ho2 (by simp at z1; omega) (by simp; omega) hm).mono ?_
  rintro e w3 ⟨v3, rfl, ho3, hb3⟩
  have e3 : w3.cell? ⟨w.heap.size, 3, none⟩ = some (.bool gone) := (hb3.cell (p := ⟨w.heap.size, 3, none⟩) (by simp)).trans d3
  have z3 := hb3.size
  have hB : Below (w.heap.size + 1) (w.alloc (.cells #[.string rep, .int .i64 n, .int .i64 m, .bool gone] 23)) w3 := (hb1.trans hb2).trans hb3
  have hB0 : Below w.heap.size w w3 := ((Below.refl _ _).alloc (Nat.le_refl _) _).trans (hB.mono (by omega))
  have HB0 := Lib.hid hB0
  clear hB hB0 c1 c2 c3 d2 d3 ho1 ho2 hb1 hb2 hb3
  rw [List.nil_append] at ho3
  simp at z1
  generalize hy : txt rep ++ vint n ++ vint m = ys at *
  have hyl : ys.length ≤ 1000 := by rw [← hy]; simp only [List.length_append]; omega
  clear hy
  cases gone
  · go_wp2_with (at_builtin; refine wpList_append_own _ rfl _ _ 178 rfl (w.heap.size + 1) 5 i0 (.int .u8 0) 1 1 Try.underlying178 hi hz0 hz1 hz2 rfl (by decide) _ _ _ rfl (ho3.alloc _) ⟨w3.heap.size, 0, none⟩ 1 1 [.int .u8 0] rfl rfl (cell_one_new _ _ _) (by simp [Value.oneCell']) (by unfold maxLen; omega) (by omega) (by simp; omega) ?_; intro v4 w4 ho4 hg4 _)
    go_ret
    refine ⟨v4, rfl, ?_, (HB0.out.alloc (by omega) _).grown hg4 (by simp; omega) (fun k hk => by have := own_base ho3 k hk; omega)⟩
    rw [HE.out 0 rfl]
    exact own_weaken (by simpa [nums] using ho4) (by omega)
  · go_wp2_with (at_builtin; refine wpList_append_own _ rfl _ _ 178 rfl (w.heap.size + 1) 5 i0 (.int .u8 0) 1 1 Try.underlying178 hi hz0 hz1 hz2 rfl (by decide) _ _ _ rfl (ho3.alloc _) ⟨w3.heap.size, 0, none⟩ 1 1 [.int .u8 1] rfl rfl (cell_one_new _ _ _) (by simp [Value.oneCell']) (by unfold maxLen; omega) (by omega) (by simp; omega) ?_; intro v4 w4 ho4 hg4 _)
    go_ret
    refine ⟨v4, rfl, ?_, (HB0.out.alloc (by omega) _).grown hg4 (by simp; omega) (fun k hk => by have := own_base ho3 k hk; omega)⟩
    rw [HE.out 1 rfl]
    exact own_weaken (by simpa [nums] using ho4) (by omega)
set_option maxHeartbeats 8000000 in
set_option maxRecDepth 100000 in
theorem encodeRec_any (rep : ByteArray) (hs : rep.size ≤ 140737488351232) (ep tm : Int) (gone : Bool) (w : World) :
    Calls Try.prog 155 #[.agg #[.string rep, .int .i64 ep, .int .i64 tm, .bool gone], .func (.func 85) #[] #[], .func (.func 156) #[] #[]] w fun e w' => e = .returned (encRes rep ep tm gone) ∧ Below w.heap.size w w' := by
  unfold encRes
  cases hm : mayRec rep ep tm
  · have hc := recMay_any rep hs ep tm gone
    rw [hm] at hc
    have HC := Lib.hid hc
    clear hc hm
    simp only [Bool.false_eq_true, if_false]
    go_enter Try.func155, Try.ntmps155
    go_wp2_with fail
    refine (HC.out _).mono ?_
    rintro e w1 ⟨rfl, hb1⟩
    go_wp2
    go_ret2
    exact ⟨rfl, below_next0 ((Below.refl _ _).alloc (Nat.le_refl _) _) hb1⟩
  · have hbd := mayRec_bd hm
    have hc := recMay_any rep hs ep tm gone
    rw [hm] at hc
    have HC := Lib.hid hc
    clear hc hm
    obtain ⟨b1, b2, b3, b4, b5, b6⟩ := hbd
    obtain ⟨n, rfl⟩ := Int.eq_ofNat_of_zero_le (show 0 ≤ ep by omega)
    obtain ⟨m, rfl⟩ := Int.eq_ofNat_of_zero_le b3
    have hp := fun W => encPut_any rep n m gone b5 (by omega) (by omega) (by omega) (by omega) W
    have HP := Lib.hid hp
    clear hp
    simp only [if_true]
    go_enter Try.func155, Try.ntmps155
    go_wp2_with fail
    refine (HC.out _).mono ?_
    rintro e w1 ⟨rfl, hb1⟩
    have c0 : w1.cell? ⟨w.heap.size, 0, none⟩ = some (.string rep) := keep_cell hb1 (by simp)
    have c1 : w1.cell? ⟨w.heap.size, 1, none⟩ = some (.int .i64 n) := keep_cell hb1 (by simp)
    have c2 : w1.cell? ⟨w.heap.size, 2, none⟩ = some (.int .i64 m) := keep_cell hb1 (by simp)
    have c3 : w1.cell? ⟨w.heap.size, 3, none⟩ = some (.bool gone) := keep_cell hb1 (by simp)
    go_wp2_with fail
    refine (HP.out _).mono ?_
    rintro e w2 ⟨v2, rfl, ho2, hb2⟩
    have hstr := own_string (P := Try.prog) (src := 178) (dst := 9) (e := 5) Try.underlying178 Try.underlying5 Try.underlying9 ho2
    clear c0 c1 c2 c3
    go_wp2
    go_ret2
    exact ⟨rfl, below_next0 (below_next0 ((Below.refl _ _).alloc (Nat.le_refl _) _) hb1) hb2⟩
set_option maxHeartbeats 8000000 in
set_option maxRecDepth 100000 in
theorem encode_any (rep : ByteArray) (hs : rep.size ≤ 140737488351232) (ep tm : Int) (gone : Bool) (w : World) :
    Calls Try.prog 81 #[.agg #[.string rep, .int .i64 ep, .int .i64 tm, .bool gone]] w fun e w' => e = .returned (encRes rep ep tm gone) ∧ Below w.heap.size w w' := by
  have hc := fun W => encodeRec_any rep hs ep tm gone W
  have HC := Lib.hid hc
  clear hc
  have hf : ∃ s : ByteArray, ∃ c : Int, encRes rep ep tm gone = .tuple #[.string s, .int .i64 c] := by
    unfold encRes
    split
    · exact ⟨_, _, rfl⟩
    · exact ⟨_, _, rfl⟩
  obtain ⟨s, c, hsc⟩ := hf
  rw [hsc] at HC ⊢
  clear hsc
  go_enter Try.func81, Try.ntmps81
  go_wp2_with fail
  refine (HC.out _).mono ?_
  rintro e w1 ⟨rfl, hb1⟩
  go_wp2
  go_ret2
  exact ⟨rfl, below_next0 ((Below.refl _ _).alloc (Nat.le_refl _) _) hb1⟩
set_option maxHeartbeats 8000000 in
set_option maxRecDepth 100000 in
theorem encPutTen_any (n m : Nat) (hn : n < 18446744073709551616) (hm : m < 18446744073709551616) (hn0 : n ≤ 1125899906842624) (hm0 : m ≤ 1125899906842624) (w : World) :
    Calls Try.prog 162 #[.slice none 0 0, .agg #[.int .i64 n, .int .i64 m]] w fun e w' => ∃ v', e = .returned v' ∧ w'.ownsRow w.heap.size 5 1 v' (tenBytes n m).length (nums .u8 (tenBytes n m)) ∧ Below w.heap.size w w' := by
  have hl1 := vint_len10 hn
  have hl2 := vint_len10 hm
  have HE : Hid (tenBytes n m = vint n ++ vint m) := Lib.hid rfl
  have hw1 : IntKind.u64.wrap (n : Int) = n := by rw [IntKind.wrap_u64]; omega
  have hw2 : IntKind.u64.wrap (m : Int) = m := by rw [IntKind.wrap_u64]; omega
  go_enter Try.func162, Try.ntmps162
  go_wp2_with fail
  have c0 : (w.alloc (.cells #[.int .i64 n, .int .i64 m] 25)).cell? ⟨w.heap.size, 0, none⟩ = some (.int .i64 n) := by simp
  have c1 : (w.alloc (.cells #[.int .i64 n, .int .i64 m] 25)).cell? ⟨w.heap.size, 1, none⟩ = some (.int .i64 m) := by simp
  go_region_held3 (fun W => W.cell? ⟨w.heap.size, 0, none⟩ = some (.int .i64 n) ∧ W.cell? ⟨w.heap.size, 1, none⟩ = some (.int .i64 m)) (go_keep) (first | (go_at_call 158; (with_reducible refine (putUvarint_any (w.heap.size + 1) (.slice none 0 0) [] n _ (World.ownsRow_nil _ _ _ _) (by simp) (by simp) hn).mono ?_); rintro e w1 ⟨v1, rfl, ho1, hb1⟩; have d0 : w1.cell? ⟨w.heap.size, 0, none⟩ = some (.int .i64 n) := (hb1.cell (p := ⟨w.heap.size, 0, none⟩) (by simp)).trans (by simp); have d1 : w1.cell? ⟨w.heap.size, 1, none⟩ = some (.int .i64 m) := (hb1.cell (p := ⟨w.heap.size, 1, none⟩) (by simp)).trans (by simp); have z1 := hb1.size) | (go_at_call 158; (with_reducible refine (putUvarint_any (w.heap.size + 1) v1 _ m _ (by exact ho1) (by simp at z1 ⊢; omega) (by simp; omega) hm).mono ?_); rintro e w2 ⟨v2, rfl, ho2, hb2⟩; have d0' : w2.cell? ⟨w.heap.size, 0, none⟩ = some (.int .i64 n) := (hb2.cell (p := ⟨w.heap.size, 0, none⟩) (by simp)).trans (by simp [*]); have d1' : w2.cell? ⟨w.heap.size, 1, none⟩ = some (.int .i64 m) := (hb2.cell (p := ⟨w.heap.size, 1, none⟩) (by simp)).trans (by simp [*])))
  go_wp2
  go_ret
  refine ⟨_, rfl, ?_, ?_⟩
  · rw [HE.out]
    exact own_weaken (by simpa using ho2) (by omega)
  · have h1 : Below (w.heap.size + 1) _ w2 := (pw_below_drewN (Below.refl _ (w.alloc (.cells #[.int .i64 n, .int .i64 m] 25))) _).trans (hb1.trans hb2)
    exact ((Below.refl _ _).alloc (Nat.le_refl _) _).trans (h1.mono (by omega))
set_option maxHeartbeats 8000000 in
set_option maxRecDepth 100000 in
theorem encodeTenG_any (live ep : Int) (w : World) :
    Calls Try.prog 161 #[.agg #[.int .i64 live, .int .i64 ep], .func (.func 87) #[] #[], .func (.func 162) #[] #[]] w fun e w' => e = .returned (encTenRes live ep) ∧ Below w.heap.size w w' := by
  unfold encTenRes
  cases hm : mayTen live ep
  · have hc := tenMay_any live ep
    rw [hm] at hc
    have HC := Lib.hid hc
    clear hc hm
    simp only [Bool.false_eq_true, if_false]
    go_enter Try.func161, Try.ntmps161
    go_wp2_with fail
    refine (HC.out _).mono ?_
    rintro e w1 ⟨rfl, hb1⟩
    go_wp2
    go_ret2
    exact ⟨rfl, below_next0 ((Below.refl _ _).alloc (Nat.le_refl _) _) hb1⟩
  · have hbd := mayTen_bd hm
    have hc := tenMay_any live ep
    rw [hm] at hc
    have HC := Lib.hid hc
    clear hc hm
    obtain ⟨b1, b2, b3, b4, b5⟩ := hbd
    obtain ⟨n, rfl⟩ := Int.eq_ofNat_of_zero_le b3
    obtain ⟨m, rfl⟩ := Int.eq_ofNat_of_zero_le b1
    have hp := fun W => encPutTen_any n m (by omega) (by omega) (by omega) (by omega) W
    have HP := Lib.hid hp
    clear hp
    simp only [if_true]
    go_enter Try.func161, Try.ntmps161
    go_wp2_with fail
    refine (HC.out _).mono ?_
    rintro e w1 ⟨rfl, hb1⟩
    have c0 : w1.cell? ⟨w.heap.size, 0, none⟩ = some (.int .i64 n) := keep_cell hb1 (by simp)
    have c1 : w1.cell? ⟨w.heap.size, 1, none⟩ = some (.int .i64 m) := keep_cell hb1 (by simp)
    go_wp2_with fail
    refine (HP.out _).mono ?_
    rintro e w2 ⟨v2, rfl, ho2, hb2⟩
    have hstr := own_string (P := Try.prog) (src := 178) (dst := 9) (e := 5) Try.underlying178 Try.underlying5 Try.underlying9 ho2
    clear c0 c1
    go_wp2
    go_ret2
    exact ⟨rfl, below_next0 (below_next0 ((Below.refl _ _).alloc (Nat.le_refl _) _) hb1) hb2⟩
set_option maxHeartbeats 8000000 in
set_option maxRecDepth 100000 in
theorem encodeTen_any (live ep : Int) (w : World) :
    Calls Try.prog 83 #[.agg #[.int .i64 live, .int .i64 ep]] w fun e w' => e = .returned (encTenRes live ep) ∧ Below w.heap.size w w' := by
  have hc := fun W => encodeTenG_any live ep W
  have HC := Lib.hid hc
  clear hc
  have hf : ∃ s : ByteArray, ∃ c : Int, encTenRes live ep = .tuple #[.string s, .int .i64 c] := by
    unfold encTenRes
    split
    · exact ⟨_, _, rfl⟩
    · exact ⟨_, _, rfl⟩
  obtain ⟨s, c, hsc⟩ := hf
  rw [hsc] at HC ⊢
  clear hsc
  go_enter Try.func83, Try.ntmps83
  go_wp2_with fail
  refine (HC.out _).mono ?_
  rintro e w1 ⟨rfl, hb1⟩
  go_wp2
  go_ret2
  exact ⟨rfl, below_next0 ((Below.refl _ _).alloc (Nat.le_refl _) _) hb1⟩
end Go.Proofs.Ytobanhbjkomieaa.RP
