import Derived.Test.YtobanhbjkomieaaRZ
import Derived.Test.YtobanhbjkomieaaOQ
namespace Go.Proofs.Ytobanhbjkomieaa.RP
open Go.RowKit Go.Proofs.Ytobanhbjkomieaa.PAll Go.Proofs.Ytobanhbjkomieaa.KP Go.Proofs.Ytobanhbjkomieaa.BP Go.Proofs.YtobanhbjkomieaaW.PrintWords Go.Proofs.YtobanhbjkomieaaW.PrintLast Go.Proofs.YtobanhbjkomieaaW.PrintMore
set_option linter.unusedSimpArgs false
set_option linter.unusedVariables false
attribute [local go_sem high] EQ.eqA23 EQ.eqA25 EQ.eqA113
theorem encBoth (rep : ByteArray) (hs : rep.size ≤ 140737488351232) (ep tm : Int) (gone : Bool) : ∃ (s : ByteArray) (e : Int),
    (∀ W, Calls Try.prog 81 #[.agg #[.string rep, .int .i64 ep, .int .i64 tm, .bool gone]] W fun r w' => r = .returned (.tuple #[.string s, .int .i64 e]) ∧ Below W.heap.size W w') ∧
    (∀ W, Calls Try.prog 82 #[.agg #[.string rep, .int .i64 ep, .int .i64 tm, .bool gone]] W fun r w' => r = .returned (.tuple #[.string s, .int .i64 e]) ∧ Below W.heap.size W w') := by
  have h1 := fun W => encode_any rep hs ep tm gone W
  have h2 := fun W => refEncode_any rep hs ep tm gone W
  unfold encRes at h1 h2
  split at h1
  · rename_i c
    rw [if_pos c] at h2
    exact ⟨_, _, h1, h2⟩
  · rename_i c
    rw [if_neg c] at h2
    exact ⟨_, _, h1, h2⟩
theorem encTBoth (live eps : Int) : ∃ (s : ByteArray) (e : Int),
    (∀ W, Calls Try.prog 83 #[.agg #[.int .i64 live, .int .i64 eps]] W fun r w' => r = .returned (.tuple #[.string s, .int .i64 e]) ∧ Below W.heap.size W w') ∧
    (∀ W, Calls Try.prog 84 #[.agg #[.int .i64 live, .int .i64 eps]] W fun r w' => r = .returned (.tuple #[.string s, .int .i64 e]) ∧ Below W.heap.size W w') := by
  have h1 := fun W => encodeTen_any live eps W
  have h2 := fun W => refEncodeTen_any live eps W
  unfold encTenRes at h1 h2
  split at h1
  · rename_i c
    rw [if_pos c] at h2
    exact ⟨_, _, h1, h2⟩
  · rename_i c
    rw [if_neg c] at h2
    exact ⟨_, _, h1, h2⟩
attribute [local go_sem ↓] Go.wp_at_zero Go.wp_at_succ
set_option maxHeartbeats 2000000 in
set_option maxRecDepth 100000 in
theorem RecordWrites_core (rep : ByteArray) (ep tm : Int) (gone : Bool) (live eps : Int) (w : World) (hs0 : rep.size ≤ maxLen) :
    Calls Try.prog 14 #[.agg #[.string rep, .int .i64 ep, .int .i64 tm, .bool gone], .agg #[.int .i64 live, .int .i64 eps]] w fun e w' => e = .returned (.bool true) ∧ Below w.heap.size w w' := by
  unfold maxLen at hs0
  by_cases h0 : 10000 < rep.size
  · go_enter Try.func14, Try.ntmps14
    go_wp2_with fail
    refine (awake_any _).mono ?_
    rintro e w1 ⟨rfl, hb1⟩
    have HR1 := Lib.hid ((hb1.block (w.heap.size) (by simp; omega)).trans (blk_alloc (heap_alloc_new w (.cells #[.string rep, .int .i64 ep, .int .i64 tm, .bool gone] 23)) (.cells #[.int .i64 live, .int .i64 eps] 25)))
    have HT1 := Lib.hid ((hb1.block (w.heap.size + 1) (by simp)).trans (heap_alloc_at (w.alloc (.cells #[.string rep, .int .i64 ep, .int .i64 tm, .bool gone] 23)) (.cells #[.int .i64 live, .int .i64 eps] 25) (n := w.heap.size + 1) (by simp)))
    have HB1 := Lib.hid ((below_alloc (below_alloc (Below.refl w.heap.size w) (.cells #[.string rep, .int .i64 ep, .int .i64 tm, .bool gone] 23)) (.cells #[.int .i64 live, .int .i64 eps] 25)).trans (hb1.mono (by simp; try omega)))
    clear hb1
    go_wp2
    go_ret
    exact ⟨by first | rfl | (simp; done), HB1.out⟩
  have hs : rep.size ≤ 140737488351232 := by omega
  obtain ⟨s1, e1, c1, c2⟩ := encBoth rep hs ep tm gone
  obtain ⟨s2, e2, c3, c4⟩ := encTBoth live eps
  have C1 := Lib.hid c1
  have C2 := Lib.hid c2
  have C3 := Lib.hid c3
  have C4 := Lib.hid c4
  clear c1 c2 c3 c4
  have c5 := fun W => recMay_any rep hs ep tm gone W
  have c6 := fun W => refRecMay_any rep hs ep tm gone W
  have c7 := fun W => tenMay_any live eps W
  have c8 := fun W => refTenMay_any live eps W
  generalize mayRec rep ep tm = m1 at *
  generalize mayTen live eps = m2 at *
  have C5 := Lib.hid c5
  have C6 := Lib.hid c6
  have C7 := Lib.hid c7
  have C8 := Lib.hid c8
  clear c5 c6 c7 c8
  go_enter Try.func14, Try.ntmps14
  go_wp2_with fail
  refine (C1.out _).mono ?_
  rintro e w1 ⟨rfl, hb1⟩
  have HR1 := Lib.hid ((hb1.block (w.heap.size) (by simp; omega)).trans (blk_alloc (heap_alloc_new w (.cells #[.string rep, .int .i64 ep, .int .i64 tm, .bool gone] 23)) (.cells #[.int .i64 live, .int .i64 eps] 25)))
  have HT1 := Lib.hid ((hb1.block (w.heap.size + 1) (by simp)).trans (heap_alloc_at (w.alloc (.cells #[.string rep, .int .i64 ep, .int .i64 tm, .bool gone] 23)) (.cells #[.int .i64 live, .int .i64 eps] 25) (n := w.heap.size + 1) (by simp)))
  have HB1 := Lib.hid ((below_alloc (below_alloc (Below.refl w.heap.size w) (.cells #[.string rep, .int .i64 ep, .int .i64 tm, .bool gone] 23)) (.cells #[.int .i64 live, .int .i64 eps] 25)).trans (hb1.mono (by simp; try omega)))
  clear hb1
  have hcR0 := blk_cell HR1.out 0
  have hcR1 := blk_cell HR1.out 1
  have hcR2 := blk_cell HR1.out 2
  have hcR3 := blk_cell HR1.out 3
  have hlR := blk_lt HR1.out
  simp only [List.getElem?_toArray, List.getElem?_cons_zero, List.getElem?_cons_succ] at hcR0 hcR1 hcR2 hcR3
  go_wp2_with fail
  refine (C2.out _).mono ?_
  rintro e w2 ⟨rfl, hb2⟩
  clear hcR0 hcR1 hcR2 hcR3 hlR
  have HR2 := Lib.hid ((hb2.block _ (by have := blk_lt HR1.out; exact this)).trans HR1.out)
  have HT2 := Lib.hid ((hb2.block _ (by have := blk_lt HT1.out; exact this)).trans HT1.out)
  have HB2 := Lib.hid ((HB1.out).trans (hb2.mono (by have := HB1.out.size; omega)))
  clear hb2
  have hcT0 := blk_cell HT2.out 0
  have hcT1 := blk_cell HT2.out 1
  have hlT := blk_lt HT2.out
  simp only [List.getElem?_toArray, List.getElem?_cons_zero, List.getElem?_cons_succ] at hcT0 hcT1
  go_wp2_with fail
  refine (C3.out _).mono ?_
  rintro e w3 ⟨rfl, hb3⟩
  clear hcT0 hcT1 hlT
  have HR3 := Lib.hid ((hb3.block _ (by have := blk_lt HR2.out; exact this)).trans HR2.out)
  have HT3 := Lib.hid ((hb3.block _ (by have := blk_lt HT2.out; exact this)).trans HT2.out)
  have HB3 := Lib.hid ((HB2.out).trans (hb3.mono (by have := HB2.out.size; omega)))
  clear hb3
  have hcT0 := blk_cell HT3.out 0
  have hcT1 := blk_cell HT3.out 1
  have hlT := blk_lt HT3.out
  simp only [List.getElem?_toArray, List.getElem?_cons_zero, List.getElem?_cons_succ] at hcT0 hcT1
  go_wp2_with fail
  refine (C4.out _).mono ?_
  rintro e w4 ⟨rfl, hb4⟩
  clear hcT0 hcT1 hlT
  have HR4 := Lib.hid ((hb4.block _ (by have := blk_lt HR3.out; exact this)).trans HR3.out)
  have HT4 := Lib.hid ((hb4.block _ (by have := blk_lt HT3.out; exact this)).trans HT3.out)
  have HB4 := Lib.hid ((HB3.out).trans (hb4.mono (by have := HB3.out.size; omega)))
  clear hb4
  have hcR0 := blk_cell HR4.out 0
  have hcR1 := blk_cell HR4.out 1
  have hcR2 := blk_cell HR4.out 2
  have hcR3 := blk_cell HR4.out 3
  have hlR := blk_lt HR4.out
  have hcT0 := blk_cell HT4.out 0
  have hcT1 := blk_cell HT4.out 1
  have hlT := blk_lt HT4.out
  simp only [List.getElem?_toArray, List.getElem?_cons_zero, List.getElem?_cons_succ] at hcR0 hcR1 hcR2 hcR3 hcT0 hcT1
  have hbw : Below w.heap.size w w4 := HB4.out
  go_wp2_with fail
  go_region_held3 (fun W => W.cell? ⟨w.heap.size, 0, none⟩ = some (.string rep) ∧ W.cell? ⟨w.heap.size, 1, none⟩ = some (.int .i64 ep) ∧ W.cell? ⟨w.heap.size, 2, none⟩ = some (.int .i64 tm) ∧ W.cell? ⟨w.heap.size, 3, none⟩ = some (.bool gone) ∧ W.cell? ⟨w.heap.size + 1, 0, none⟩ = some (.int .i64 live) ∧ W.cell? ⟨w.heap.size + 1, 1, none⟩ = some (.int .i64 eps)) (go_keep) (first | (go_at_call 85; (with_reducible refine (C5.out _).mono ?_); rintro e x5 ⟨rfl, hb5⟩; have d0 := keep_cell (a := ⟨w.heap.size, 0, none⟩) (v := .string rep) hb5 (by simp [*]); have d1 := keep_cell (a := ⟨w.heap.size, 1, none⟩) (v := .int .i64 ep) hb5 (by simp [*]); have d2 := keep_cell (a := ⟨w.heap.size, 2, none⟩) (v := .int .i64 tm) hb5 (by simp [*]); have d3 := keep_cell (a := ⟨w.heap.size, 3, none⟩) (v := .bool gone) hb5 (by simp [*]); have d4 := keep_cell (a := ⟨w.heap.size + 1, 0, none⟩) (v := .int .i64 live) hb5 (by simp [*]); have d5 := keep_cell (a := ⟨w.heap.size + 1, 1, none⟩) (v := .int .i64 eps) hb5 (by simp [*]); (first | have hbw := below_next0 hbw hb5 | have hbw := below_next hbw hb5)) | (go_at_call 86; (with_reducible refine (C6.out _).mono ?_); rintro e x5 ⟨rfl, hb5⟩; have d0 := keep_cell (a := ⟨w.heap.size, 0, none⟩) (v := .string rep) hb5 (by simp [*]); have d1 := keep_cell (a := ⟨w.heap.size, 1, none⟩) (v := .int .i64 ep) hb5 (by simp [*]); have d2 := keep_cell (a := ⟨w.heap.size, 2, none⟩) (v := .int .i64 tm) hb5 (by simp [*]); have d3 := keep_cell (a := ⟨w.heap.size, 3, none⟩) (v := .bool gone) hb5 (by simp [*]); have d4 := keep_cell (a := ⟨w.heap.size + 1, 0, none⟩) (v := .int .i64 live) hb5 (by simp [*]); have d5 := keep_cell (a := ⟨w.heap.size + 1, 1, none⟩) (v := .int .i64 eps) hb5 (by simp [*]); (first | have hbw := below_next0 hbw hb5 | have hbw := below_next hbw hb5)) | (go_at_call 87; (with_reducible refine (C7.out _).mono ?_); rintro e x5 ⟨rfl, hb5⟩; have d0 := keep_cell (a := ⟨w.heap.size, 0, none⟩) (v := .string rep) hb5 (by simp [*]); have d1 := keep_cell (a := ⟨w.heap.size, 1, none⟩) (v := .int .i64 ep) hb5 (by simp [*]); have d2 := keep_cell (a := ⟨w.heap.size, 2, none⟩) (v := .int .i64 tm) hb5 (by simp [*]); have d3 := keep_cell (a := ⟨w.heap.size, 3, none⟩) (v := .bool gone) hb5 (by simp [*]); have d4 := keep_cell (a := ⟨w.heap.size + 1, 0, none⟩) (v := .int .i64 live) hb5 (by simp [*]); have d5 := keep_cell (a := ⟨w.heap.size + 1, 1, none⟩) (v := .int .i64 eps) hb5 (by simp [*]); (first | have hbw := below_next0 hbw hb5 | have hbw := below_next hbw hb5)) | (go_at_call 88; (with_reducible refine (C8.out _).mono ?_); rintro e x5 ⟨rfl, hb5⟩; have d0 := keep_cell (a := ⟨w.heap.size, 0, none⟩) (v := .string rep) hb5 (by simp [*]); have d1 := keep_cell (a := ⟨w.heap.size, 1, none⟩) (v := .int .i64 ep) hb5 (by simp [*]); have d2 := keep_cell (a := ⟨w.heap.size, 2, none⟩) (v := .int .i64 tm) hb5 (by simp [*]); have d3 := keep_cell (a := ⟨w.heap.size, 3, none⟩) (v := .bool gone) hb5 (by simp [*]); have d4 := keep_cell (a := ⟨w.heap.size + 1, 0, none⟩) (v := .int .i64 live) hb5 (by simp [*]); have d5 := keep_cell (a := ⟨w.heap.size + 1, 1, none⟩) (v := .int .i64 eps) hb5 (by simp [*]); (first | have hbw := below_next0 hbw hb5 | have hbw := below_next hbw hb5)) | (go_at_call 74; (with_reducible refine (awake_any _).mono ?_); rintro e x5 ⟨rfl, hb5⟩; have d0 := keep_cell (a := ⟨w.heap.size, 0, none⟩) (v := .string rep) hb5 (by simp [*]); have d1 := keep_cell (a := ⟨w.heap.size, 1, none⟩) (v := .int .i64 ep) hb5 (by simp [*]); have d2 := keep_cell (a := ⟨w.heap.size, 2, none⟩) (v := .int .i64 tm) hb5 (by simp [*]); have d3 := keep_cell (a := ⟨w.heap.size, 3, none⟩) (v := .bool gone) hb5 (by simp [*]); have d4 := keep_cell (a := ⟨w.heap.size + 1, 0, none⟩) (v := .int .i64 live) hb5 (by simp [*]); have d5 := keep_cell (a := ⟨w.heap.size + 1, 1, none⟩) (v := .int .i64 eps) hb5 (by simp [*]); (first | have hbw := below_next0 hbw hb5 | have hbw := below_next hbw hb5)))
  all_goals go_wp2
  all_goals go_ret
  all_goals exact ⟨by first | rfl | (simp; done), by first | exact hbw | exact pw_below_drewN hbw _⟩
theorem RecordWrites_walk (cs0 : Array Value) (x0 : ByteArray × Int × Int × Bool) (cs1 : Array Value) (x1 : Int × Int) (w : World) (hK0 : (Kd.pair Kd.string (Kd.pair OP.I64 (Kd.pair OP.I64 Kd.bool))).K w x0 cs0.toList) (ok0 : OP.small x0.1 ∧ OP.wf64 x0.2.1 ∧ OP.wf64 x0.2.2.1 ∧ True) (hK1 : (Kd.pair OP.I64 OP.I64).K w x1 cs1.toList) (ok1 : OP.wf64 x1.1 ∧ OP.wf64 x1.2) :
    Calls Try.prog 14 #[.agg cs0, .agg cs1] w fun e w' => e = .returned (.bool true) ∧ Below w.heap.size w w' := by
  rw [OP.rec_cells hK0, OP.ten_cells hK1]
  exact RecordWrites_core _ _ _ _ _ _ w ok0.1
end Go.Proofs.Ytobanhbjkomieaa.RP
