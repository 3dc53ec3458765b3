import Derived.Test.YtobanhbjkomieaaRN
namespace Go.Proofs.Ytobanhbjkomieaa.RP
open Go.RowKit Go.Proofs.Ytobanhbjkomieaa.PAll Go.Proofs.Ytobanhbjkomieaa.KP Go.Proofs.Ytobanhbjkomieaa.BP Go.Proofs.YtobanhbjkomieaaW.PrintWords Go.Proofs.YtobanhbjkomieaaW.PrintLast Go.Proofs.YtobanhbjkomieaaW.PrintMore
set_option linter.unusedSimpArgs false
set_option linter.unusedVariables false
attribute [local go_sem high] EQ.eqA23 EQ.eqA25 EQ.eqA113
set_option maxHeartbeats 8000000 in
set_option maxRecDepth 100000 in
theorem RecordBack_core (rep : ByteArray) (ep tm : Int) (gone : Bool) (live eps : Int) (s : ByteArray) (w : World) (hs0 : rep.size ≤ maxLen) (hs : s.size ≤ 140737488351232) :
    Calls Try.prog 15 #[recA rep ep tm gone, tenA live eps, .string s] w fun e w' => e = .returned (.bool true) ∧ Below w.heap.size w w' := by
  unfold maxLen at hs0
  by_cases h0 : 10000 < rep.size
  · go_enter Try.func15, Try.ntmps15
    go_wp2_with fail
    refine (awake_any _).mono ?_
    rintro e w1 ⟨rfl, hb1⟩
    have HR1 := Lib.hid ((hb1.block (w.heap.size) (by simp; omega)).trans (blk_alloc (heap_alloc_new w (.cells #[.string rep, .int .i64 ep, .int .i64 tm, .bool gone] 23)) (.cells #[.int .i64 live, .int .i64 eps] 25)))
    have HT1 := Lib.hid ((hb1.block (w.heap.size + 1) (by simp)).trans (heap_alloc_at (w.alloc (.cells #[.string rep, .int .i64 ep, .int .i64 tm, .bool gone] 23)) (.cells #[.int .i64 live, .int .i64 eps] 25) (n := w.heap.size + 1) (by simp)))
    have HB1 := Lib.hid ((below_alloc (below_alloc (Below.refl w.heap.size w) (.cells #[.string rep, .int .i64 ep, .int .i64 tm, .bool gone] 23)) (.cells #[.int .i64 live, .int .i64 eps] 25)).trans (hb1.mono (by simp; try omega)))
    clear hb1
    go_wp2
    go_ret
    exact ⟨by first | rfl | (simp; done), HB1.out⟩
  by_cases h1 : 10000 < s.size
  · go_enter Try.func15, Try.ntmps15
    go_wp2_with fail
    refine (awake_any _).mono ?_
    rintro e w1 ⟨rfl, hb1⟩
    have HR1 := Lib.hid ((hb1.block (w.heap.size) (by simp; omega)).trans (blk_alloc (heap_alloc_new w (.cells #[.string rep, .int .i64 ep, .int .i64 tm, .bool gone] 23)) (.cells #[.int .i64 live, .int .i64 eps] 25)))
    have HT1 := Lib.hid ((hb1.block (w.heap.size + 1) (by simp)).trans (heap_alloc_at (w.alloc (.cells #[.string rep, .int .i64 ep, .int .i64 tm, .bool gone] 23)) (.cells #[.int .i64 live, .int .i64 eps] 25) (n := w.heap.size + 1) (by simp)))
    have HB1 := Lib.hid ((below_alloc (below_alloc (Below.refl w.heap.size w) (.cells #[.string rep, .int .i64 ep, .int .i64 tm, .bool gone] 23)) (.cells #[.int .i64 live, .int .i64 eps] 25)).trans (hb1.mono (by simp; try omega)))
    clear hb1
    go_wp2
    go_ret
    exact ⟨by first | rfl | (simp; done), HB1.out⟩
  have hr : rep.size ≤ 140737488351232 := by omega
  have k1 := encCase rep hr ep tm gone
  have k2 := encTCase live eps
  obtain ⟨rp, ip, im, ig, e3, hd3, c3, k3⟩ := decCase s hs
  obtain ⟨lv, lp, e4, hd4, c4, k4⟩ := decTCase s hs
  have K1 := Lib.hid k1
  have K2 := Lib.hid k2
  have C3 := Lib.hid c3
  have C4 := Lib.hid c4
  have K3 := Lib.hid k3
  have K4 := Lib.hid k4
  clear k1 k2 c3 c4 k3 k4
  clear hd3 hd4
  go_enter Try.func15, Try.ntmps15
  go_wp2_with fail
  refine (awake_any _).mono ?_
  rintro e w1 ⟨rfl, hb1⟩
  have HR1 := Lib.hid ((hb1.block (w.heap.size) (by simp; omega)).trans (blk_alloc (heap_alloc_new w (.cells #[.string rep, .int .i64 ep, .int .i64 tm, .bool gone] 23)) (.cells #[.int .i64 live, .int .i64 eps] 25)))
  have HT1 := Lib.hid ((hb1.block (w.heap.size + 1) (by simp)).trans (heap_alloc_at (w.alloc (.cells #[.string rep, .int .i64 ep, .int .i64 tm, .bool gone] 23)) (.cells #[.int .i64 live, .int .i64 eps] 25) (n := w.heap.size + 1) (by simp)))
  have HB1 := Lib.hid ((below_alloc (below_alloc (Below.refl w.heap.size w) (.cells #[.string rep, .int .i64 ep, .int .i64 tm, .bool gone] 23)) (.cells #[.int .i64 live, .int .i64 eps] 25)).trans (hb1.mono (by simp; try omega)))
  clear hb1
  rcases K1.out with ⟨hm, a, ha1, ha2, ha3, f1, f2⟩ | ⟨hm, f1⟩
  · clear hm ha3
    have F1 := Lib.hid f1
    have F2 := Lib.hid f2
    clear f1 f2
    have hcR0 := blk_cell HR1.out 0
    have hcR1 := blk_cell HR1.out 1
    have hcR2 := blk_cell HR1.out 2
    have hcR3 := blk_cell HR1.out 3
    have hlR := blk_lt HR1.out
    simp only [List.getElem?_toArray, List.getElem?_cons_zero, List.getElem?_cons_succ] at hcR0 hcR1 hcR2 hcR3
    go_wp2_with fail
    refine (F1.out _).mono ?_
    rintro e w2 ⟨rfl, hb2⟩
    clear hcR0 hcR1 hcR2 hcR3 hlR
    have HR2 := Lib.hid ((hb2.block _ (by have := blk_lt HR1.out; exact this)).trans HR1.out)
    have HT2 := Lib.hid ((hb2.block _ (by have := blk_lt HT1.out; exact this)).trans HT1.out)
    have HB2 := Lib.hid ((HB1.out).trans (hb2.mono (by have := HB1.out.size; omega)))
    clear hb2
    have hcR0 := blk_cell HR2.out 0
    have hcR1 := blk_cell HR2.out 1
    have hcR2 := blk_cell HR2.out 2
    have hcR3 := blk_cell HR2.out 3
    have hlR := blk_lt HR2.out
    simp only [List.getElem?_toArray, List.getElem?_cons_zero, List.getElem?_cons_succ] at hcR0 hcR1 hcR2 hcR3
    go_wp2_with fail
    refine (F2.out _).mono ?_
    rintro e w3 ⟨rfl, hb3⟩
    clear hcR0 hcR1 hcR2 hcR3 hlR
    have HR3 := Lib.hid ((hb3.block _ (by have := blk_lt HR2.out; exact this)).trans HR2.out)
    have HT3 := Lib.hid ((hb3.block _ (by have := blk_lt HT2.out; exact this)).trans HT2.out)
    have HB3 := Lib.hid ((HB2.out).trans (hb3.mono (by have := HB2.out.size; omega)))
    clear hb3
    rcases K2.out with ⟨hn, b, hb1, hb2, hb3, g1, g2⟩ | ⟨hn, g1⟩
    · clear hn hb3
      have G1 := Lib.hid g1
      have G2 := Lib.hid g2
      clear g1 g2
      have hcT0 := blk_cell HT3.out 0
      have hcT1 := blk_cell HT3.out 1
      have hlT := blk_lt HT3.out
      simp only [List.getElem?_toArray, List.getElem?_cons_zero, List.getElem?_cons_succ] at hcT0 hcT1
      go_wp2_with fail
      refine (G1.out _).mono ?_
      rintro e w4 ⟨rfl, hb4⟩
      clear hcT0 hcT1 hlT
      have HR4 := Lib.hid ((hb4.block _ (by have := blk_lt HR3.out; exact this)).trans HR3.out)
      have HT4 := Lib.hid ((hb4.block _ (by have := blk_lt HT3.out; exact this)).trans HT3.out)
      have HB4 := Lib.hid ((HB3.out).trans (hb4.mono (by have := HB3.out.size; omega)))
      clear hb4
      go_wp2_with fail
      refine (G2.out _).mono ?_
      rintro e w5 ⟨rfl, hb5⟩
      have HR5 := Lib.hid ((hb5.block _ (by have := blk_lt HR4.out; exact this)).trans HR4.out)
      have HT5 := Lib.hid ((hb5.block _ (by have := blk_lt HT4.out; exact this)).trans HT4.out)
      have HB5 := Lib.hid ((HB4.out).trans (hb5.mono (by have := HB4.out.size; omega)))
      clear hb5
      have hcT0 := blk_cell HT5.out 0
      have hcT1 := blk_cell HT5.out 1
      have hlT := blk_lt HT5.out
      simp only [List.getElem?_toArray, List.getElem?_cons_zero, List.getElem?_cons_succ] at hcT0 hcT1
      go_wp2_with fail
      refine (C3.out _).mono ?_
      rintro e w6 ⟨rfl, hb6⟩
      clear hcT0 hcT1 hlT
      have HR6 := Lib.hid ((hb6.block _ (by have := blk_lt HR5.out; simp; omega)).trans (blk_alloc HR5.out (.cells #[.int .i64 live, .int .i64 eps] 25)))
      have HT6 := Lib.hid ((hb6.block _ (by have := blk_lt HT5.out; simp; omega)).trans (blk_alloc HT5.out (.cells #[.int .i64 live, .int .i64 eps] 25)))
      have HU6 := Lib.hid ((hb6.block (w5.heap.size) (by simp)).trans (heap_alloc_new w5 (.cells #[.int .i64 live, .int .i64 eps] 25)))
      have HB6 := Lib.hid ((below_alloc (HB5.out) (.cells #[.int .i64 live, .int .i64 eps] 25)).trans (hb6.mono (by have := HB5.out.size; simp; omega)))
      clear hb6
      by_cases h3 : e3 = 0
      · obtain ⟨m3, z3, l3⟩ := K3.out h3
        subst h3
        rcases encCase rp z3 ip im ig with ⟨_, c, _, _, hc3, q1, q2⟩ | ⟨m4, _⟩
        · have hcs : c.size ≤ s.size := by rw [Lib.size_eq, hc3]; exact l3
          clear m3 z3 l3 hc3
          have Q1 := Lib.hid q1
          have Q2 := Lib.hid q2
          clear q1 q2
          go_wp2_with fail
          refine (Q1.out _).mono ?_
          rintro e w7 ⟨rfl, hb7⟩
          have HR7 := Lib.hid ((hb7.block _ (by have := blk_lt HR6.out; simp; omega)).trans (blk_alloc HR6.out (.cells #[.string rp, .int .i64 ip, .int .i64 im, .bool ig] 23)))
          have HT7 := Lib.hid ((hb7.block _ (by have := blk_lt HT6.out; simp; omega)).trans (blk_alloc HT6.out (.cells #[.string rp, .int .i64 ip, .int .i64 im, .bool ig] 23)))
          have HU7 := Lib.hid ((hb7.block _ (by have := blk_lt HU6.out; simp; omega)).trans (blk_alloc HU6.out (.cells #[.string rp, .int .i64 ip, .int .i64 im, .bool ig] 23)))
          have HX7 := Lib.hid ((hb7.block (w6.heap.size) (by simp)).trans (heap_alloc_new w6 (.cells #[.string rp, .int .i64 ip, .int .i64 im, .bool ig] 23)))
          have HB7 := Lib.hid ((below_alloc (HB6.out) (.cells #[.string rp, .int .i64 ip, .int .i64 im, .bool ig] 23)).trans (hb7.mono (by have := HB6.out.size; simp; omega)))
          clear hb7
          have hcX0 := blk_cell HX7.out 0
          have hcX1 := blk_cell HX7.out 1
          have hcX2 := blk_cell HX7.out 2
          have hcX3 := blk_cell HX7.out 3
          have hlX := blk_lt HX7.out
          simp only [List.getElem?_toArray, List.getElem?_cons_zero, List.getElem?_cons_succ] at hcX0 hcX1 hcX2 hcX3
          go_wp2_with fail
          refine (Q2.out _).mono ?_
          rintro e w8 ⟨rfl, hb8⟩
          clear hcX0 hcX1 hcX2 hcX3 hlX
          have HR8 := Lib.hid ((hb8.block _ (by have := blk_lt HR7.out; exact this)).trans HR7.out)
          have HT8 := Lib.hid ((hb8.block _ (by have := blk_lt HT7.out; exact this)).trans HT7.out)
          have HU8 := Lib.hid ((hb8.block _ (by have := blk_lt HU7.out; exact this)).trans HU7.out)
          have HX8 := Lib.hid ((hb8.block _ (by have := blk_lt HX7.out; exact this)).trans HX7.out)
          have HB8 := Lib.hid ((HB7.out).trans (hb8.mono (by have := HB7.out.size; omega)))
          clear hb8
          go_wp2_with fail
          refine (C4.out _).mono ?_
          rintro e w9 ⟨rfl, hb9⟩
          have HR9 := Lib.hid ((hb9.block _ (by have := blk_lt HR8.out; exact this)).trans HR8.out)
          have HT9 := Lib.hid ((hb9.block _ (by have := blk_lt HT8.out; exact this)).trans HT8.out)
          have HU9 := Lib.hid ((hb9.block _ (by have := blk_lt HU8.out; exact this)).trans HU8.out)
          have HX9 := Lib.hid ((hb9.block _ (by have := blk_lt HX8.out; exact this)).trans HX8.out)
          have HB9 := Lib.hid ((HB8.out).trans (hb9.mono (by have := HB8.out.size; omega)))
          clear hb9
          by_cases h4 : e4 = 0
          · obtain ⟨m5, l5⟩ := K4.out h4
            subst h4
            rcases encTCase lv lp with ⟨_, d, _, _, hd, r1, r2⟩ | ⟨m6, _⟩
            · have hds : d.size ≤ s.size := by rw [Lib.size_eq, hd]; exact l5
              clear m5 l5 hd
              have R1 := Lib.hid r1
              have R2 := Lib.hid r2
              clear r1 r2
              go_wp2_with fail
              refine (R1.out _).mono ?_
              rintro e w10 ⟨rfl, hb10⟩
              have HR10 := Lib.hid ((hb10.block _ (by have := blk_lt HR9.out; simp; omega)).trans (blk_alloc HR9.out (.cells #[.int .i64 lv, .int .i64 lp] 25)))
              have HT10 := Lib.hid ((hb10.block _ (by have := blk_lt HT9.out; simp; omega)).trans (blk_alloc HT9.out (.cells #[.int .i64 lv, .int .i64 lp] 25)))
              have HU10 := Lib.hid ((hb10.block _ (by have := blk_lt HU9.out; simp; omega)).trans (blk_alloc HU9.out (.cells #[.int .i64 lv, .int .i64 lp] 25)))
              have HX10 := Lib.hid ((hb10.block _ (by have := blk_lt HX9.out; simp; omega)).trans (blk_alloc HX9.out (.cells #[.int .i64 lv, .int .i64 lp] 25)))
              have HY10 := Lib.hid ((hb10.block (w9.heap.size) (by simp)).trans (heap_alloc_new w9 (.cells #[.int .i64 lv, .int .i64 lp] 25)))
              have HB10 := Lib.hid ((below_alloc (HB9.out) (.cells #[.int .i64 lv, .int .i64 lp] 25)).trans (hb10.mono (by have := HB9.out.size; simp; omega)))
              clear hb10
              go_wp2_with fail
              refine (R2.out _).mono ?_
              rintro e w11 ⟨rfl, hb11⟩
              have HR11 := Lib.hid ((hb11.block _ (by have := blk_lt HR10.out; exact this)).trans HR10.out)
              have HT11 := Lib.hid ((hb11.block _ (by have := blk_lt HT10.out; exact this)).trans HT10.out)
              have HU11 := Lib.hid ((hb11.block _ (by have := blk_lt HU10.out; exact this)).trans HU10.out)
              have HX11 := Lib.hid ((hb11.block _ (by have := blk_lt HX10.out; exact this)).trans HX10.out)
              have HY11 := Lib.hid ((hb11.block _ (by have := blk_lt HY10.out; exact this)).trans HY10.out)
              have HB11 := Lib.hid ((HB10.out).trans (hb11.mono (by have := HB10.out.size; omega)))
              clear hb11
              have hcY0 := blk_cell HY11.out 0
              have hcY1 := blk_cell HY11.out 1
              have hlY := blk_lt HY11.out
              simp only [List.getElem?_toArray, List.getElem?_cons_zero, List.getElem?_cons_succ] at hcY0 hcY1
              go_wp2
              go_ret
              exact ⟨by first | rfl | (simp; done), below_alloc (HB11.out) (.cells #[.int .i64 lv, .int .i64 lp] 25)⟩
            · rw [m5] at m6; cases m6
          · have h4' : (e4 == 0) = false := beq_eq_false_iff_ne.2 h4
            go_wp2
            go_ret
            exact ⟨by first | rfl | (simp; done), below_alloc (HB9.out) (.cells #[.int .i64 lv, .int .i64 lp] 25)⟩
        · rw [m3] at m4; cases m4
      · have h3' : (e3 == 0) = false := beq_eq_false_iff_ne.2 h3
        go_wp2_with fail
        refine (C4.out _).mono ?_
        rintro e w7 ⟨rfl, hb7⟩
        have HR7 := Lib.hid ((hb7.block _ (by have := blk_lt HR6.out; simp; omega)).trans (blk_alloc HR6.out (.cells #[.string rp, .int .i64 ip, .int .i64 im, .bool ig] 23)))
        have HT7 := Lib.hid ((hb7.block _ (by have := blk_lt HT6.out; simp; omega)).trans (blk_alloc HT6.out (.cells #[.string rp, .int .i64 ip, .int .i64 im, .bool ig] 23)))
        have HU7 := Lib.hid ((hb7.block _ (by have := blk_lt HU6.out; simp; omega)).trans (blk_alloc HU6.out (.cells #[.string rp, .int .i64 ip, .int .i64 im, .bool ig] 23)))
        have HX7 := Lib.hid ((hb7.block (w6.heap.size) (by simp)).trans (heap_alloc_new w6 (.cells #[.string rp, .int .i64 ip, .int .i64 im, .bool ig] 23)))
        have HB7 := Lib.hid ((below_alloc (HB6.out) (.cells #[.string rp, .int .i64 ip, .int .i64 im, .bool ig] 23)).trans (hb7.mono (by have := HB6.out.size; simp; omega)))
        clear hb7
        by_cases h4 : e4 = 0
        · obtain ⟨m5, l5⟩ := K4.out h4
          subst h4
          rcases encTCase lv lp with ⟨_, d, _, _, hd, r1, r2⟩ | ⟨m6, _⟩
          · have hds : d.size ≤ s.size := by rw [Lib.size_eq, hd]; exact l5
            clear m5 l5 hd
            have R1 := Lib.hid r1
            have R2 := Lib.hid r2
            clear r1 r2
            go_wp2_with fail
            refine (R1.out _).mono ?_
            rintro e w8 ⟨rfl, hb8⟩
            have HR8 := Lib.hid ((hb8.block _ (by have := blk_lt HR7.out; simp; omega)).trans (blk_alloc HR7.out (.cells #[.int .i64 lv, .int .i64 lp] 25)))
            have HT8 := Lib.hid ((hb8.block _ (by have := blk_lt HT7.out; simp; omega)).trans (blk_alloc HT7.out (.cells #[.int .i64 lv, .int .i64 lp] 25)))
            have HU8 := Lib.hid ((hb8.block _ (by have := blk_lt HU7.out; simp; omega)).trans (blk_alloc HU7.out (.cells #[.int .i64 lv, .int .i64 lp] 25)))
            have HX8 := Lib.hid ((hb8.block _ (by have := blk_lt HX7.out; simp; omega)).trans (blk_alloc HX7.out (.cells #[.int .i64 lv, .int .i64 lp] 25)))
            have HY8 := Lib.hid ((hb8.block (w7.heap.size) (by simp)).trans (heap_alloc_new w7 (.cells #[.int .i64 lv, .int .i64 lp] 25)))
            have HB8 := Lib.hid ((below_alloc (HB7.out) (.cells #[.int .i64 lv, .int .i64 lp] 25)).trans (hb8.mono (by have := HB7.out.size; simp; omega)))
            clear hb8
            go_wp2_with fail
            refine (R2.out _).mono ?_
            rintro e w9 ⟨rfl, hb9⟩
            have HR9 := Lib.hid ((hb9.block _ (by have := blk_lt HR8.out; exact this)).trans HR8.out)
            have HT9 := Lib.hid ((hb9.block _ (by have := blk_lt HT8.out; exact this)).trans HT8.out)
            have HU9 := Lib.hid ((hb9.block _ (by have := blk_lt HU8.out; exact this)).trans HU8.out)
            have HX9 := Lib.hid ((hb9.block _ (by have := blk_lt HX8.out; exact this)).trans HX8.out)
            have HY9 := Lib.hid ((hb9.block _ (by have := blk_lt HY8.out; exact this)).trans HY8.out)
            have HB9 := Lib.hid ((HB8.out).trans (hb9.mono (by have := HB8.out.size; omega)))
            clear hb9
            have hcY0 := blk_cell HY9.out 0
            have hcY1 := blk_cell HY9.out 1
            have hlY := blk_lt HY9.out
            simp only [List.getElem?_toArray, List.getElem?_cons_zero, List.getElem?_cons_succ] at hcY0 hcY1
            go_wp2
            go_ret
            exact ⟨by first | rfl | (simp; done), below_alloc (HB9.out) (.cells #[.int .i64 lv, .int .i64 lp] 25)⟩
          · rw [m5] at m6; cases m6
        · have h4' : (e4 == 0) = false := beq_eq_false_iff_ne.2 h4
          go_wp2
          go_ret
          exact ⟨by first | rfl | (simp; done), below_alloc (HB7.out) (.cells #[.int .i64 lv, .int .i64 lp] 25)⟩
    · clear hn
      have G1 := Lib.hid g1
      clear g1
      have hcT0 := blk_cell HT3.out 0
      have hcT1 := blk_cell HT3.out 1
      have hlT := blk_lt HT3.out
      simp only [List.getElem?_toArray, List.getElem?_cons_zero, List.getElem?_cons_succ] at hcT0 hcT1
      go_wp2_with fail
      refine (G1.out _).mono ?_
      rintro e w4 ⟨rfl, hb4⟩
      clear hcT0 hcT1 hlT
      have HR4 := Lib.hid ((hb4.block _ (by have := blk_lt HR3.out; exact this)).trans HR3.out)
      have HT4 := Lib.hid ((hb4.block _ (by have := blk_lt HT3.out; exact this)).trans HT3.out)
      have HB4 := Lib.hid ((HB3.out).trans (hb4.mono (by have := HB3.out.size; omega)))
      clear hb4
      go_wp2_with fail
      refine (decT_nil _).mono ?_
      rintro e w5 ⟨rfl, hb5⟩
      have HR5 := Lib.hid ((hb5.block _ (by have := blk_lt HR4.out; exact this)).trans HR4.out)
      have HT5 := Lib.hid ((hb5.block _ (by have := blk_lt HT4.out; exact this)).trans HT4.out)
      have HB5 := Lib.hid ((HB4.out).trans (hb5.mono (by have := HB4.out.size; omega)))
      clear hb5
      go_wp2_with fail
      refine (C3.out _).mono ?_
      rintro e w6 ⟨rfl, hb6⟩
      have HR6 := Lib.hid ((hb6.block _ (by have := blk_lt HR5.out; simp; omega)).trans (blk_alloc HR5.out (.cells #[.int .i64 0, .int .i64 0] 25)))
      have HT6 := Lib.hid ((hb6.block _ (by have := blk_lt HT5.out; simp; omega)).trans (blk_alloc HT5.out (.cells #[.int .i64 0, .int .i64 0] 25)))
      have HU6 := Lib.hid ((hb6.block (w5.heap.size) (by simp)).trans (heap_alloc_new w5 (.cells #[.int .i64 0, .int .i64 0] 25)))
      have HB6 := Lib.hid ((below_alloc (HB5.out) (.cells #[.int .i64 0, .int .i64 0] 25)).trans (hb6.mono (by have := HB5.out.size; simp; omega)))
      clear hb6
      by_cases h3 : e3 = 0
      · obtain ⟨m3, z3, l3⟩ := K3.out h3
        subst h3
        rcases encCase rp z3 ip im ig with ⟨_, c, _, _, hc3, q1, q2⟩ | ⟨m4, _⟩
        · have hcs : c.size ≤ s.size := by rw [Lib.size_eq, hc3]; exact l3
          clear m3 z3 l3 hc3
          have Q1 := Lib.hid q1
          have Q2 := Lib.hid q2
          clear q1 q2
          go_wp2_with fail
          refine (Q1.out _).mono ?_
          rintro e w7 ⟨rfl, hb7⟩
          have HR7 := Lib.hid ((hb7.block _ (by have := blk_lt HR6.out; simp; omega)).trans (blk_alloc HR6.out (.cells #[.string rp, .int .i64 ip, .int .i64 im, .bool ig] 23)))
          have HT7 := Lib.hid ((hb7.block _ (by have := blk_lt HT6.out; simp; omega)).trans (blk_alloc HT6.out (.cells #[.string rp, .int .i64 ip, .int .i64 im, .bool ig] 23)))
          have HU7 := Lib.hid ((hb7.block _ (by have := blk_lt HU6.out; simp; omega)).trans (blk_alloc HU6.out (.cells #[.string rp, .int .i64 ip, .int .i64 im, .bool ig] 23)))
          have HX7 := Lib.hid ((hb7.block (w6.heap.size) (by simp)).trans (heap_alloc_new w6 (.cells #[.string rp, .int .i64 ip, .int .i64 im, .bool ig] 23)))
          have HB7 := Lib.hid ((below_alloc (HB6.out) (.cells #[.string rp, .int .i64 ip, .int .i64 im, .bool ig] 23)).trans (hb7.mono (by have := HB6.out.size; simp; omega)))
          clear hb7
          have hcX0 := blk_cell HX7.out 0
          have hcX1 := blk_cell HX7.out 1
          have hcX2 := blk_cell HX7.out 2
          have hcX3 := blk_cell HX7.out 3
          have hlX := blk_lt HX7.out
          simp only [List.getElem?_toArray, List.getElem?_cons_zero, List.getElem?_cons_succ] at hcX0 hcX1 hcX2 hcX3
          go_wp2_with fail
          refine (Q2.out _).mono ?_
          rintro e w8 ⟨rfl, hb8⟩
          clear hcX0 hcX1 hcX2 hcX3 hlX
          have HR8 := Lib.hid ((hb8.block _ (by have := blk_lt HR7.out; exact this)).trans HR7.out)
          have HT8 := Lib.hid ((hb8.block _ (by have := blk_lt HT7.out; exact this)).trans HT7.out)
          have HU8 := Lib.hid ((hb8.block _ (by have := blk_lt HU7.out; exact this)).trans HU7.out)
          have HX8 := Lib.hid ((hb8.block _ (by have := blk_lt HX7.out; exact this)).trans HX7.out)
          have HB8 := Lib.hid ((HB7.out).trans (hb8.mono (by have := HB7.out.size; omega)))
          clear hb8
          go_wp2_with fail
          refine (C4.out _).mono ?_
          rintro e w9 ⟨rfl, hb9⟩
          have HR9 := Lib.hid ((hb9.block _ (by have := blk_lt HR8.out; exact this)).trans HR8.out)
          have HT9 := Lib.hid ((hb9.block _ (by have := blk_lt HT8.out; exact this)).trans HT8.out)
          have HU9 := Lib.hid ((hb9.block _ (by have := blk_lt HU8.out; exact this)).trans HU8.out)
          have HX9 := Lib.hid ((hb9.block _ (by have := blk_lt HX8.out; exact this)).trans HX8.out)
          have HB9 := Lib.hid ((HB8.out).trans (hb9.mono (by have := HB8.out.size; omega)))
          clear hb9
          by_cases h4 : e4 = 0
          · obtain ⟨m5, l5⟩ := K4.out h4
            subst h4
            rcases encTCase lv lp with ⟨_, d, _, _, hd, r1, r2⟩ | ⟨m6, _⟩
            · have hds : d.size ≤ s.size := by rw [Lib.size_eq, hd]; exact l5
              clear m5 l5 hd
              have R1 := Lib.hid r1
              have R2 := Lib.hid r2
              clear r1 r2
              go_wp2_with fail
              refine (R1.out _).mono ?_
              rintro e w10 ⟨rfl, hb10⟩
              have HR10 := Lib.hid ((hb10.block _ (by have := blk_lt HR9.out; simp; omega)).trans (blk_alloc HR9.out (.cells #[.int .i64 lv, .int .i64 lp] 25)))
              have HT10 := Lib.hid ((hb10.block _ (by have := blk_lt HT9.out; simp; omega)).trans (blk_alloc HT9.out (.cells #[.int .i64 lv, .int .i64 lp] 25)))
              have HU10 := Lib.hid ((hb10.block _ (by have := blk_lt HU9.out; simp; omega)).trans (blk_alloc HU9.out (.cells #[.int .i64 lv, .int .i64 lp] 25)))
              have HX10 := Lib.hid ((hb10.block _ (by have := blk_lt HX9.out; simp; omega)).trans (blk_alloc HX9.out (.cells #[.int .i64 lv, .int .i64 lp] 25)))
              have HY10 := Lib.hid ((hb10.block (w9.heap.size) (by simp)).trans (heap_alloc_new w9 (.cells #[.int .i64 lv, .int .i64 lp] 25)))
              have HB10 := Lib.hid ((below_alloc (HB9.out) (.cells #[.int .i64 lv, .int .i64 lp] 25)).trans (hb10.mono (by have := HB9.out.size; simp; omega)))
              clear hb10
              go_wp2_with fail
              refine (R2.out _).mono ?_
              rintro e w11 ⟨rfl, hb11⟩
              have HR11 := Lib.hid ((hb11.block _ (by have := blk_lt HR10.out; exact this)).trans HR10.out)
              have HT11 := Lib.hid ((hb11.block _ (by have := blk_lt HT10.out; exact this)).trans HT10.out)
              have HU11 := Lib.hid ((hb11.block _ (by have := blk_lt HU10.out; exact this)).trans HU10.out)
              have HX11 := Lib.hid ((hb11.block _ (by have := blk_lt HX10.out; exact this)).trans HX10.out)
              have HY11 := Lib.hid ((hb11.block _ (by have := blk_lt HY10.out; exact this)).trans HY10.out)
              have HB11 := Lib.hid ((HB10.out).trans (hb11.mono (by have := HB10.out.size; omega)))
              clear hb11
              have hcY0 := blk_cell HY11.out 0
              have hcY1 := blk_cell HY11.out 1
              have hlY := blk_lt HY11.out
              simp only [List.getElem?_toArray, List.getElem?_cons_zero, List.getElem?_cons_succ] at hcY0 hcY1
              go_wp2
              go_ret
              exact ⟨by first | rfl | (simp; done), below_alloc (HB11.out) (.cells #[.int .i64 lv, .int .i64 lp] 25)⟩
            · rw [m5] at m6; cases m6
          · have h4' : (e4 == 0) = false := beq_eq_false_iff_ne.2 h4
            go_wp2
            go_ret
            exact ⟨by first | rfl | (simp; done), below_alloc (HB9.out) (.cells #[.int .i64 lv, .int .i64 lp] 25)⟩
        · rw [m3] at m4; cases m4
      · have h3' : (e3 == 0) = false := beq_eq_false_iff_ne.2 h3
        go_wp2_with fail
        refine (C4.out _).mono ?_
        rintro e w7 ⟨rfl, hb7⟩
        have HR7 := Lib.hid ((hb7.block _ (by have := blk_lt HR6.out; simp; omega)).trans (blk_alloc HR6.out (.cells #[.string rp, .int .i64 ip, .int .i64 im, .bool ig] 23)))
        have HT7 := Lib.hid ((hb7.block _ (by have := blk_lt HT6.out; simp; omega)).trans (blk_alloc HT6.out (.cells #[.string rp, .int .i64 ip, .int .i64 im, .bool ig] 23)))
        have HU7 := Lib.hid ((hb7.block _ (by have := blk_lt HU6.out; simp; omega)).trans (blk_alloc HU6.out (.cells #[.string rp, .int .i64 ip, .int .i64 im, .bool ig] 23)))
        have HX7 := Lib.hid ((hb7.block (w6.heap.size) (by simp)).trans (heap_alloc_new w6 (.cells #[.string rp, .int .i64 ip, .int .i64 im, .bool ig] 23)))
        have HB7 := Lib.hid ((below_alloc (HB6.out) (.cells #[.string rp, .int .i64 ip, .int .i64 im, .bool ig] 23)).trans (hb7.mono (by have := HB6.out.size; simp; omega)))
        clear hb7
        by_cases h4 : e4 = 0
        · obtain ⟨m5, l5⟩ := K4.out h4
          subst h4
          rcases encTCase lv lp with ⟨_, d, _, _, hd, r1, r2⟩ | ⟨m6, _⟩
          · have hds : d.size ≤ s.size := by rw [Lib.size_eq, hd]; exact l5
            clear m5 l5 hd
            have R1 := Lib.hid r1
            have R2 := Lib.hid r2
            clear r1 r2
            go_wp2_with fail
            refine (R1.out _).mono ?_
            rintro e w8 ⟨rfl, hb8⟩
            have HR8 := Lib.hid ((hb8.block _ (by have := blk_lt HR7.out; simp; omega)).trans (blk_alloc HR7.out (.cells #[.int .i64 lv, .int .i64 lp] 25)))
            have HT8 := Lib.hid ((hb8.block _ (by have := blk_lt HT7.out; simp; omega)).trans (blk_alloc HT7.out (.cells #[.int .i64 lv, .int .i64 lp] 25)))
            have HU8 := Lib.hid ((hb8.block _ (by have := blk_lt HU7.out; simp; omega)).trans (blk_alloc HU7.out (.cells #[.int .i64 lv, .int .i64 lp] 25)))
            have HX8 := Lib.hid ((hb8.block _ (by have := blk_lt HX7.out; simp; omega)).trans (blk_alloc HX7.out (.cells #[.int .i64 lv, .int .i64 lp] 25)))
            have HY8 := Lib.hid ((hb8.block (w7.heap.size) (by simp)).trans (heap_alloc_new w7 (.cells #[.int .i64 lv, .int .i64 lp] 25)))
            have HB8 := Lib.hid ((below_alloc (HB7.out) (.cells #[.int .i64 lv, .int .i64 lp] 25)).trans (hb8.mono (by have := HB7.out.size; simp; omega)))
            clear hb8
            go_wp2_with fail
            refine (R2.out _).mono ?_
            rintro e w9 ⟨rfl, hb9⟩
            have HR9 := Lib.hid ((hb9.block _ (by have := blk_lt HR8.out; exact this)).trans HR8.out)
            have HT9 := Lib.hid ((hb9.block _ (by have := blk_lt HT8.out; exact this)).trans HT8.out)
            have HU9 := Lib.hid ((hb9.block _ (by have := blk_lt HU8.out; exact this)).trans HU8.out)
            have HX9 := Lib.hid ((hb9.block _ (by have := blk_lt HX8.out; exact this)).trans HX8.out)
            have HY9 := Lib.hid ((hb9.block _ (by have := blk_lt HY8.out; exact this)).trans HY8.out)
            have HB9 := Lib.hid ((HB8.out).trans (hb9.mono (by have := HB8.out.size; omega)))
            clear hb9
            have hcY0 := blk_cell HY9.out 0
            have hcY1 := blk_cell HY9.out 1
            have hlY := blk_lt HY9.out
            simp only [List.getElem?_toArray, List.getElem?_cons_zero, List.getElem?_cons_succ] at hcY0 hcY1
            go_wp2
            go_ret
            exact ⟨by first | rfl | (simp; done), below_alloc (HB9.out) (.cells #[.int .i64 lv, .int .i64 lp] 25)⟩
          · rw [m5] at m6; cases m6
        · have h4' : (e4 == 0) = false := beq_eq_false_iff_ne.2 h4
          go_wp2
          go_ret
          exact ⟨by first | rfl | (simp; done), below_alloc (HB7.out) (.cells #[.int .i64 lv, .int .i64 lp] 25)⟩
  · clear hm
    have F1 := Lib.hid f1
    clear f1
    have hcR0 := blk_cell HR1.out 0
    have hcR1 := blk_cell HR1.out 1
    have hcR2 := blk_cell HR1.out 2
    have hcR3 := blk_cell HR1.out 3
    have hlR := blk_lt HR1.out
    simp only [List.getElem?_toArray, List.getElem?_cons_zero, List.getElem?_cons_succ] at hcR0 hcR1 hcR2 hcR3
    go_wp2_with fail
    refine (F1.out _).mono ?_
    rintro e w2 ⟨rfl, hb2⟩
    clear hcR0 hcR1 hcR2 hcR3 hlR
    have HR2 := Lib.hid ((hb2.block _ (by have := blk_lt HR1.out; exact this)).trans HR1.out)
    have HT2 := Lib.hid ((hb2.block _ (by have := blk_lt HT1.out; exact this)).trans HT1.out)
    have HB2 := Lib.hid ((HB1.out).trans (hb2.mono (by have := HB1.out.size; omega)))
    clear hb2
    rcases K2.out with ⟨hn, b, hb1, hb2, hb3, g1, g2⟩ | ⟨hn, g1⟩
    · clear hn hb3
      have G1 := Lib.hid g1
      have G2 := Lib.hid g2
      clear g1 g2
      have hcT0 := blk_cell HT2.out 0
      have hcT1 := blk_cell HT2.out 1
      have hlT := blk_lt HT2.out
      simp only [List.getElem?_toArray, List.getElem?_cons_zero, List.getElem?_cons_succ] at hcT0 hcT1
      go_wp2_with fail
      refine (G1.out _).mono ?_
      rintro e w3 ⟨rfl, hb3⟩
      clear hcT0 hcT1 hlT
      have HR3 := Lib.hid ((hb3.block _ (by have := blk_lt HR2.out; exact this)).trans HR2.out)
      have HT3 := Lib.hid ((hb3.block _ (by have := blk_lt HT2.out; exact this)).trans HT2.out)
      have HB3 := Lib.hid ((HB2.out).trans (hb3.mono (by have := HB2.out.size; omega)))
      clear hb3
      go_wp2_with fail
      refine (G2.out _).mono ?_
      rintro e w4 ⟨rfl, hb4⟩
      have HR4 := Lib.hid ((hb4.block _ (by have := blk_lt HR3.out; exact this)).trans HR3.out)
      have HT4 := Lib.hid ((hb4.block _ (by have := blk_lt HT3.out; exact this)).trans HT3.out)
      have HB4 := Lib.hid ((HB3.out).trans (hb4.mono (by have := HB3.out.size; omega)))
      clear hb4
      have hcT0 := blk_cell HT4.out 0
      have hcT1 := blk_cell HT4.out 1
      have hlT := blk_lt HT4.out
      simp only [List.getElem?_toArray, List.getElem?_cons_zero, List.getElem?_cons_succ] at hcT0 hcT1
      go_wp2_with fail
      refine (C3.out _).mono ?_
      rintro e w5 ⟨rfl, hb5⟩
      clear hcT0 hcT1 hlT
      have HR5 := Lib.hid ((hb5.block _ (by have := blk_lt HR4.out; simp; omega)).trans (blk_alloc HR4.out (.cells #[.int .i64 live, .int .i64 eps] 25)))
      have HT5 := Lib.hid ((hb5.block _ (by have := blk_lt HT4.out; simp; omega)).trans (blk_alloc HT4.out (.cells #[.int .i64 live, .int .i64 eps] 25)))
      have HU5 := Lib.hid ((hb5.block (w4.heap.size) (by simp)).trans (heap_alloc_new w4 (.cells #[.int .i64 live, .int .i64 eps] 25)))
      have HB5 := Lib.hid ((below_alloc (HB4.out) (.cells #[.int .i64 live, .int .i64 eps] 25)).trans (hb5.mono (by have := HB4.out.size; simp; omega)))
      clear hb5
      by_cases h3 : e3 = 0
      · obtain ⟨m3, z3, l3⟩ := K3.out h3
        subst h3
        rcases encCase rp z3 ip im ig with ⟨_, c, _, _, hc3, q1, q2⟩ | ⟨m4, _⟩
        · have hcs : c.size ≤ s.size := by rw [Lib.size_eq, hc3]; exact l3
          clear m3 z3 l3 hc3
          have Q1 := Lib.hid q1
          have Q2 := Lib.hid q2
          clear q1 q2
          go_wp2_with fail
          refine (Q1.out _).mono ?_
          rintro e w6 ⟨rfl, hb6⟩
          have HR6 := Lib.hid ((hb6.block _ (by have := blk_lt HR5.out; simp; omega)).trans (blk_alloc HR5.out (.cells #[.string rp, .int .i64 ip, .int .i64 im, .bool ig] 23)))
          have HT6 := Lib.hid ((hb6.block _ (by have := blk_lt HT5.out; simp; omega)).trans (blk_alloc HT5.out (.cells #[.string rp, .int .i64 ip, .int .i64 im, .bool ig] 23)))
          have HU6 := Lib.hid ((hb6.block _ (by have := blk_lt HU5.out; simp; omega)).trans (blk_alloc HU5.out (.cells #[.string rp, .int .i64 ip, .int .i64 im, .bool ig] 23)))
          have HX6 := Lib.hid ((hb6.block (w5.heap.size) (by simp)).trans (heap_alloc_new w5 (.cells #[.string rp, .int .i64 ip, .int .i64 im, .bool ig] 23)))
          have HB6 := Lib.hid ((below_alloc (HB5.out) (.cells #[.string rp, .int .i64 ip, .int .i64 im, .bool ig] 23)).trans (hb6.mono (by have := HB5.out.size; simp; omega)))
          clear hb6
          have hcX0 := blk_cell HX6.out 0
          have hcX1 := blk_cell HX6.out 1
          have hcX2 := blk_cell HX6.out 2
          have hcX3 := blk_cell HX6.out 3
          have hlX := blk_lt HX6.out
          simp only [List.getElem?_toArray, List.getElem?_cons_zero, List.getElem?_cons_succ] at hcX0 hcX1 hcX2 hcX3
          go_wp2_with fail
          refine (Q2.out _).mono ?_
          rintro e w7 ⟨rfl, hb7⟩
          clear hcX0 hcX1 hcX2 hcX3 hlX
          have HR7 := Lib.hid ((hb7.block _ (by have := blk_lt HR6.out; exact this)).trans HR6.out)
          have HT7 := Lib.hid ((hb7.block _ (by have := blk_lt HT6.out; exact this)).trans HT6.out)
          have HU7 := Lib.hid ((hb7.block _ (by have := blk_lt HU6.out; exact this)).trans HU6.out)
          have HX7 := Lib.hid ((hb7.block _ (by have := blk_lt HX6.out; exact this)).trans HX6.out)
          have HB7 := Lib.hid ((HB6.out).trans (hb7.mono (by have := HB6.out.size; omega)))
          clear hb7
          go_wp2_with fail
          refine (C4.out _).mono ?_
          rintro e w8 ⟨rfl, hb8⟩
          have HR8 := Lib.hid ((hb8.block _ (by have := blk_lt HR7.out; exact this)).trans HR7.out)
          have HT8 := Lib.hid ((hb8.block _ (by have := blk_lt HT7.out; exact this)).trans HT7.out)
          have HU8 := Lib.hid ((hb8.block _ (by have := blk_lt HU7.out; exact this)).trans HU7.out)
          have HX8 := Lib.hid ((hb8.block _ (by have := blk_lt HX7.out; exact this)).trans HX7.out)
          have HB8 := Lib.hid ((HB7.out).trans (hb8.mono (by have := HB7.out.size; omega)))
          clear hb8
          by_cases h4 : e4 = 0
          · obtain ⟨m5, l5⟩ := K4.out h4
            subst h4
            rcases encTCase lv lp with ⟨_, d, _, _, hd, r1, r2⟩ | ⟨m6, _⟩
            · have hds : d.size ≤ s.size := by rw [Lib.size_eq, hd]; exact l5
              clear m5 l5 hd
              have R1 := Lib.hid r1
              have R2 := Lib.hid r2
              clear r1 r2
              go_wp2_with fail
              refine (R1.out _).mono ?_
              rintro e w9 ⟨rfl, hb9⟩
              have HR9 := Lib.hid ((hb9.block _ (by have := blk_lt HR8.out; simp; omega)).trans (blk_alloc HR8.out (.cells #[.int .i64 lv, .int .i64 lp] 25)))
              have HT9 := Lib.hid ((hb9.block _ (by have := blk_lt HT8.out; simp; omega)).trans (blk_alloc HT8.out (.cells #[.int .i64 lv, .int .i64 lp] 25)))
              have HU9 := Lib.hid ((hb9.block _ (by have := blk_lt HU8.out; simp; omega)).trans (blk_alloc HU8.out (.cells #[.int .i64 lv, .int .i64 lp] 25)))
              have HX9 := Lib.hid ((hb9.block _ (by have := blk_lt HX8.out; simp; omega)).trans (blk_alloc HX8.out (.cells #[.int .i64 lv, .int .i64 lp] 25)))
              have HY9 := Lib.hid ((hb9.block (w8.heap.size) (by simp)).trans (heap_alloc_new w8 (.cells #[.int .i64 lv, .int .i64 lp] 25)))
              have HB9 := Lib.hid ((below_alloc (HB8.out) (.cells #[.int .i64 lv, .int .i64 lp] 25)).trans (hb9.mono (by have := HB8.out.size; simp; omega)))
              clear hb9
              go_wp2_with fail
              refine (R2.out _).mono ?_
              rintro e w10 ⟨rfl, hb10⟩
              have HR10 := Lib.hid ((hb10.block _ (by have := blk_lt HR9.out; exact this)).trans HR9.out)
              have HT10 := Lib.hid ((hb10.block _ (by have := blk_lt HT9.out; exact this)).trans HT9.out)
              have HU10 := Lib.hid ((hb10.block _ (by have := blk_lt HU9.out; exact this)).trans HU9.out)
              have HX10 := Lib.hid ((hb10.block _ (by have := blk_lt HX9.out; exact this)).trans HX9.out)
              have HY10 := Lib.hid ((hb10.block _ (by have := blk_lt HY9.out; exact this)).trans HY9.out)
              have HB10 := Lib.hid ((HB9.out).trans (hb10.mono (by have := HB9.out.size; omega)))
              clear hb10
              have hcY0 := blk_cell HY10.out 0
              have hcY1 := blk_cell HY10.out 1
              have hlY := blk_lt HY10.out
              simp only [List.getElem?_toArray, List.getElem?_cons_zero, List.getElem?_cons_succ] at hcY0 hcY1
              go_wp2
              go_ret
              exact ⟨by first | rfl | (simp; done), below_alloc (HB10.out) (.cells #[.int .i64 lv, .int .i64 lp] 25)⟩
            · rw [m5] at m6; cases m6
          · have h4' : (e4 == 0) = false := beq_eq_false_iff_ne.2 h4
            go_wp2
            go_ret
            exact ⟨by first | rfl | (simp; done), below_alloc (HB8.out) (.cells #[.int .i64 lv, .int .i64 lp] 25)⟩
        · rw [m3] at m4; cases m4
      · have h3' : (e3 == 0) = false := beq_eq_false_iff_ne.2 h3
        go_wp2_with fail
        refine (C4.out _).mono ?_
        rintro e w6 ⟨rfl, hb6⟩
        have HR6 := Lib.hid ((hb6.block _ (by have := blk_lt HR5.out; simp; omega)).trans (blk_alloc HR5.out (.cells #[.string rp, .int .i64 ip, .int .i64 im, .bool ig] 23)))
        have HT6 := Lib.hid ((hb6.block _ (by have := blk_lt HT5.out; simp; omega)).trans (blk_alloc HT5.out (.cells #[.string rp, .int .i64 ip, .int .i64 im, .bool ig] 23)))
        have HU6 := Lib.hid ((hb6.block _ (by have := blk_lt HU5.out; simp; omega)).trans (blk_alloc HU5.out (.cells #[.string rp, .int .i64 ip, .int .i64 im, .bool ig] 23)))
        have HX6 := Lib.hid ((hb6.block (w5.heap.size) (by simp)).trans (heap_alloc_new w5 (.cells #[.string rp, .int .i64 ip, .int .i64 im, .bool ig] 23)))
        have HB6 := Lib.hid ((below_alloc (HB5.out) (.cells #[.string rp, .int .i64 ip, .int .i64 im, .bool ig] 23)).trans (hb6.mono (by have := HB5.out.size; simp; omega)))
        clear hb6
        by_cases h4 : e4 = 0
        · obtain ⟨m5, l5⟩ := K4.out h4
          subst h4
          rcases encTCase lv lp with ⟨_, d, _, _, hd, r1, r2⟩ | ⟨m6, _⟩
          · have hds : d.size ≤ s.size := by rw [Lib.size_eq, hd]; exact l5
            clear m5 l5 hd
            have R1 := Lib.hid r1
            have R2 := Lib.hid r2
            clear r1 r2
            go_wp2_with fail
            refine (R1.out _).mono ?_
            rintro e w7 ⟨rfl, hb7⟩
            have HR7 := Lib.hid ((hb7.block _ (by have := blk_lt HR6.out; simp; omega)).trans (blk_alloc HR6.out (.cells #[.int .i64 lv, .int .i64 lp] 25)))
            have HT7 := Lib.hid ((hb7.block _ (by have := blk_lt HT6.out; simp; omega)).trans (blk_alloc HT6.out (.cells #[.int .i64 lv, .int .i64 lp] 25)))
            have HU7 := Lib.hid ((hb7.block _ (by have := blk_lt HU6.out; simp; omega)).trans (blk_alloc HU6.out (.cells #[.int .i64 lv, .int .i64 lp] 25)))
            have HX7 := Lib.hid ((hb7.block _ (by have := blk_lt HX6.out; simp; omega)).trans (blk_alloc HX6.out (.cells #[.int .i64 lv, .int .i64 lp] 25)))
            have HY7 := Lib.hid ((hb7.block (w6.heap.size) (by simp)).trans (heap_alloc_new w6 (.cells #[.int .i64 lv, .int .i64 lp] 25)))
            have HB7 := Lib.hid ((below_alloc (HB6.out) (.cells #[.int .i64 lv, .int .i64 lp] 25)).trans (hb7.mono (by have := HB6.out.size; simp; omega)))
            clear hb7
            go_wp2_with fail
            refine (R2.out _).mono ?_
            rintro e w8 ⟨rfl, hb8⟩
            have HR8 := Lib.hid ((hb8.block _ (by have := blk_lt HR7.out; exact this)).trans HR7.out)
            have HT8 := Lib.hid ((hb8.block _ (by have := blk_lt HT7.out; exact this)).trans HT7.out)
            have HU8 := Lib.hid ((hb8.block _ (by have := blk_lt HU7.out; exact this)).trans HU7.out)
            have HX8 := Lib.hid ((hb8.block _ (by have := blk_lt HX7.out; exact this)).trans HX7.out)
            have HY8 := Lib.hid ((hb8.block _ (by have := blk_lt HY7.out; exact this)).trans HY7.out)
            have HB8 := Lib.hid ((HB7.out).trans (hb8.mono (by have := HB7.out.size; omega)))
            clear hb8
            have hcY0 := blk_cell HY8.out 0
            have hcY1 := blk_cell HY8.out 1
            have hlY := blk_lt HY8.out
            simp only [List.getElem?_toArray, List.getElem?_cons_zero, List.getElem?_cons_succ] at hcY0 hcY1
            go_wp2
            go_ret
            exact ⟨by first | rfl | (simp; done), below_alloc (HB8.out) (.cells #[.int .i64 lv, .int .i64 lp] 25)⟩
          · rw [m5] at m6; cases m6
        · have h4' : (e4 == 0) = false := beq_eq_false_iff_ne.2 h4
          go_wp2
          go_ret
          exact ⟨by first | rfl | (simp; done), below_alloc (HB6.out) (.cells #[.int .i64 lv, .int .i64 lp] 25)⟩
    · clear hn
      have G1 := Lib.hid g1
      clear g1
      have hcT0 := blk_cell HT2.out 0
      have hcT1 := blk_cell HT2.out 1
      have hlT := blk_lt HT2.out
      simp only [List.getElem?_toArray, List.getElem?_cons_zero, List.getElem?_cons_succ] at hcT0 hcT1
      go_wp2_with fail
      refine (G1.out _).mono ?_
      rintro e w3 ⟨rfl, hb3⟩
      clear hcT0 hcT1 hlT
      have HR3 := Lib.hid ((hb3.block _ (by have := blk_lt HR2.out; exact this)).trans HR2.out)
      have HT3 := Lib.hid ((hb3.block _ (by have := blk_lt HT2.out; exact this)).trans HT2.out)
      have HB3 := Lib.hid ((HB2.out).trans (hb3.mono (by have := HB2.out.size; omega)))
      clear hb3
      go_wp2_with fail
      refine (decT_nil _).mono ?_
      rintro e w4 ⟨rfl, hb4⟩
      have HR4 := Lib.hid ((hb4.block _ (by have := blk_lt HR3.out; exact this)).trans HR3.out)
      have HT4 := Lib.hid ((hb4.block _ (by have := blk_lt HT3.out; exact this)).trans HT3.out)
      have HB4 := Lib.hid ((HB3.out).trans (hb4.mono (by have := HB3.out.size; omega)))
      clear hb4
      go_wp2_with fail
      refine (C3.out _).mono ?_
      rintro e w5 ⟨rfl, hb5⟩
      have HR5 := Lib.hid ((hb5.block _ (by have := blk_lt HR4.out; simp; omega)).trans (blk_alloc HR4.out (.cells #[.int .i64 0, .int .i64 0] 25)))
      have HT5 := Lib.hid ((hb5.block _ (by have := blk_lt HT4.out; simp; omega)).trans (blk_alloc HT4.out (.cells #[.int .i64 0, .int .i64 0] 25)))
      have HU5 := Lib.hid ((hb5.block (w4.heap.size) (by simp)).trans (heap_alloc_new w4 (.cells #[.int .i64 0, .int .i64 0] 25)))
      have HB5 := Lib.hid ((below_alloc (HB4.out) (.cells #[.int .i64 0, .int .i64 0] 25)).trans (hb5.mono (by have := HB4.out.size; simp; omega)))
      clear hb5
      by_cases h3 : e3 = 0
      · obtain ⟨m3, z3, l3⟩ := K3.out h3
        subst h3
        rcases encCase rp z3 ip im ig with ⟨_, c, _, _, hc3, q1, q2⟩ | ⟨m4, _⟩
        · have hcs : c.size ≤ s.size := by rw [Lib.size_eq, hc3]; exact l3
          clear m3 z3 l3 hc3
          have Q1 := Lib.hid q1
          have Q2 := Lib.hid q2
          clear q1 q2
          go_wp2_with fail
          refine (Q1.out _).mono ?_
          rintro e w6 ⟨rfl, hb6⟩
          have HR6 := Lib.hid ((hb6.block _ (by have := blk_lt HR5.out; simp; omega)).trans (blk_alloc HR5.out (.cells #[.string rp, .int .i64 ip, .int .i64 im, .bool ig] 23)))
          have HT6 := Lib.hid ((hb6.block _ (by have := blk_lt HT5.out; simp; omega)).trans (blk_alloc HT5.out (.cells #[.string rp, .int .i64 ip, .int .i64 im, .bool ig] 23)))
          have HU6 := Lib.hid ((hb6.block _ (by have := blk_lt HU5.out; simp; omega)).trans (blk_alloc HU5.out (.cells #[.string rp, .int .i64 ip, .int .i64 im, .bool ig] 23)))
          have HX6 := Lib.hid ((hb6.block (w5.heap.size) (by simp)).trans (heap_alloc_new w5 (.cells #[.string rp, .int .i64 ip, .int .i64 im, .bool ig] 23)))
          have HB6 := Lib.hid ((below_alloc (HB5.out) (.cells #[.string rp, .int .i64 ip, .int .i64 im, .bool ig] 23)).trans (hb6.mono (by have := HB5.out.size; simp; omega)))
          clear hb6
          have hcX0 := blk_cell HX6.out 0
          have hcX1 := blk_cell HX6.out 1
          have hcX2 := blk_cell HX6.out 2
          have hcX3 := blk_cell HX6.out 3
          have hlX := blk_lt HX6.out
          simp only [List.getElem?_toArray, List.getElem?_cons_zero, List.getElem?_cons_succ] at hcX0 hcX1 hcX2 hcX3
          go_wp2_with fail
          refine (Q2.out _).mono ?_
          rintro e w7 ⟨rfl, hb7⟩
          clear hcX0 hcX1 hcX2 hcX3 hlX
          have HR7 := Lib.hid ((hb7.block _ (by have := blk_lt HR6.out; exact this)).trans HR6.out)
          have HT7 := Lib.hid ((hb7.block _ (by have := blk_lt HT6.out; exact this)).trans HT6.out)
          have HU7 := Lib.hid ((hb7.block _ (by have := blk_lt HU6.out; exact this)).trans HU6.out)
          have HX7 := Lib.hid ((hb7.block _ (by have := blk_lt HX6.out; exact this)).trans HX6.out)
          have HB7 := Lib.hid ((HB6.out).trans (hb7.mono (by have := HB6.out.size; omega)))
          clear hb7
          go_wp2_with fail
          refine (C4.out _).mono ?_
          rintro e w8 ⟨rfl, hb8⟩
          have HR8 := Lib.hid ((hb8.block _ (by have := blk_lt HR7.out; exact this)).trans HR7.out)
          have HT8 := Lib.hid ((hb8.block _ (by have := blk_lt HT7.out; exact this)).trans HT7.out)
          have HU8 := Lib.hid ((hb8.block _ (by have := blk_lt HU7.out; exact this)).trans HU7.out)
          have HX8 := Lib.hid ((hb8.block _ (by have := blk_lt HX7.out; exact this)).trans HX7.out)
          have HB8 := Lib.hid ((HB7.out).trans (hb8.mono (by have := HB7.out.size; omega)))
          clear hb8
          by_cases h4 : e4 = 0
          · obtain ⟨m5, l5⟩ := K4.out h4
            subst h4
            rcases encTCase lv lp with ⟨_, d, _, _, hd, r1, r2⟩ | ⟨m6, _⟩
            · have hds : d.size ≤ s.size := by rw [Lib.size_eq, hd]; exact l5
              clear m5 l5 hd
              have R1 := Lib.hid r1
              have R2 := Lib.hid r2
              clear r1 r2
              go_wp2_with fail
              refine (R1.out _).mono ?_
              rintro e w9 ⟨rfl, hb9⟩
              have HR9 := Lib.hid ((hb9.block _ (by have := blk_lt HR8.out; simp; omega)).trans (blk_alloc HR8.out (.cells #[.int .i64 lv, .int .i64 lp] 25)))
              have HT9 := Lib.hid ((hb9.block _ (by have := blk_lt HT8.out; simp; omega)).trans (blk_alloc HT8.out (.cells #[.int .i64 lv, .int .i64 lp] 25)))
              have HU9 := Lib.hid ((hb9.block _ (by have := blk_lt HU8.out; simp; omega)).trans (blk_alloc HU8.out (.cells #[.int .i64 lv, .int .i64 lp] 25)))
              have HX9 := Lib.hid ((hb9.block _ (by have := blk_lt HX8.out; simp; omega)).trans (blk_alloc HX8.out (.cells #[.int .i64 lv, .int .i64 lp] 25)))
              have HY9 := Lib.hid ((hb9.block (w8.heap.size) (by simp)).trans (heap_alloc_new w8 (.cells #[.int .i64 lv, .int .i64 lp] 25)))
              have HB9 := Lib.hid ((below_alloc (HB8.out) (.cells #[.int .i64 lv, .int .i64 lp] 25)).trans (hb9.mono (by have := HB8.out.size; simp; omega)))
              clear hb9
              go_wp2_with fail
              refine (R2.out _).mono ?_
              rintro e w10 ⟨rfl, hb10⟩
              have HR10 := Lib.hid ((hb10.block _ (by have := blk_lt HR9.out; exact this)).trans HR9.out)
              have HT10 := Lib.hid ((hb10.block _ (by have := blk_lt HT9.out; exact this)).trans HT9.out)
              have HU10 := Lib.hid ((hb10.block _ (by have := blk_lt HU9.out; exact this)).trans HU9.out)
              have HX10 := Lib.hid ((hb10.block _ (by have := blk_lt HX9.out; exact this)).trans HX9.out)
              have HY10 := Lib.hid ((hb10.block _ (by have := blk_lt HY9.out; exact this)).trans HY9.out)
              have HB10 := Lib.hid ((HB9.out).trans (hb10.mono (by have := HB9.out.size; omega)))
              clear hb10
              have hcY0 := blk_cell HY10.out 0
              have hcY1 := blk_cell HY10.out 1
              have hlY := blk_lt HY10.out
              simp only [List.getElem?_toArray, List.getElem?_cons_zero, List.getElem?_cons_succ] at hcY0 hcY1
              go_wp2
              go_ret
              exact ⟨by first | rfl | (simp; done), below_alloc (HB10.out) (.cells #[.int .i64 lv, .int .i64 lp] 25)⟩
            · rw [m5] at m6; cases m6
          · have h4' : (e4 == 0) = false := beq_eq_false_iff_ne.2 h4
            go_wp2
            go_ret
            exact ⟨by first | rfl | (simp; done), below_alloc (HB8.out) (.cells #[.int .i64 lv, .int .i64 lp] 25)⟩
        · rw [m3] at m4; cases m4
      · have h3' : (e3 == 0) = false := beq_eq_false_iff_ne.2 h3
        go_wp2_with fail
        refine (C4.out _).mono ?_
        rintro e w6 ⟨rfl, hb6⟩
        have HR6 := Lib.hid ((hb6.block _ (by have := blk_lt HR5.out; simp; omega)).trans (blk_alloc HR5.out (.cells #[.string rp, .int .i64 ip, .int .i64 im, .bool ig] 23)))
        have HT6 := Lib.hid ((hb6.block _ (by have := blk_lt HT5.out; simp; omega)).trans (blk_alloc HT5.out (.cells #[.string rp, .int .i64 ip, .int .i64 im, .bool ig] 23)))
        have HU6 := Lib.hid ((hb6.block _ (by have := blk_lt HU5.out; simp; omega)).trans (blk_alloc HU5.out (.cells #[.string rp, .int .i64 ip, .int .i64 im, .bool ig] 23)))
        have HX6 := Lib.hid ((hb6.block (w5.heap.size) (by simp)).trans (heap_alloc_new w5 (.cells #[.string rp, .int .i64 ip, .int .i64 im, .bool ig] 23)))
        have HB6 := Lib.hid ((below_alloc (HB5.out) (.cells #[.string rp, .int .i64 ip, .int .i64 im, .bool ig] 23)).trans (hb6.mono (by have := HB5.out.size; simp; omega)))
        clear hb6
        by_cases h4 : e4 = 0
        · obtain ⟨m5, l5⟩ := K4.out h4
          subst h4
          rcases encTCase lv lp with ⟨_, d, _, _, hd, r1, r2⟩ | ⟨m6, _⟩
          · have hds : d.size ≤ s.size := by rw [Lib.size_eq, hd]; exact l5
            clear m5 l5 hd
            have R1 := Lib.hid r1
            have R2 := Lib.hid r2
            clear r1 r2
            go_wp2_with fail
            refine (R1.out _).mono ?_
            rintro e w7 ⟨rfl, hb7⟩
            have HR7 := Lib.hid ((hb7.block _ (by have := blk_lt HR6.out; simp; omega)).trans (blk_alloc HR6.out (.cells #[.int .i64 lv, .int .i64 lp] 25)))
            have HT7 := Lib.hid ((hb7.block _ (by have := blk_lt HT6.out; simp; omega)).trans (blk_alloc HT6.out (.cells #[.int .i64 lv, .int .i64 lp] 25)))
            have HU7 := Lib.hid ((hb7.block _ (by have := blk_lt HU6.out; simp; omega)).trans (blk_alloc HU6.out (.cells #[.int .i64 lv, .int .i64 lp] 25)))
            have HX7 := Lib.hid ((hb7.block _ (by have := blk_lt HX6.out; simp; omega)).trans (blk_alloc HX6.out (.cells #[.int .i64 lv, .int .i64 lp] 25)))
            have HY7 := Lib.hid ((hb7.block (w6.heap.size) (by simp)).trans (heap_alloc_new w6 (.cells #[.int .i64 lv, .int .i64 lp] 25)))
            have HB7 := Lib.hid ((below_alloc (HB6.out) (.cells #[.int .i64 lv, .int .i64 lp] 25)).trans (hb7.mono (by have := HB6.out.size; simp; omega)))
            clear hb7
            go_wp2_with fail
            refine (R2.out _).mono ?_
            rintro e w8 ⟨rfl, hb8⟩
            have HR8 := Lib.hid ((hb8.block _ (by have := blk_lt HR7.out; exact this)).trans HR7.out)
            have HT8 := Lib.hid ((hb8.block _ (by have := blk_lt HT7.out; exact this)).trans HT7.out)
            have HU8 := Lib.hid ((hb8.block _ (by have := blk_lt HU7.out; exact this)).trans HU7.out)
            have HX8 := Lib.hid ((hb8.block _ (by have := blk_lt HX7.out; exact this)).trans HX7.out)
            have HY8 := Lib.hid ((hb8.block _ (by have := blk_lt HY7.out; exact this)).trans HY7.out)
            have HB8 := Lib.hid ((HB7.out).trans (hb8.mono (by have := HB7.out.size; omega)))
            clear hb8
            have hcY0 := blk_cell HY8.out 0
            have hcY1 := blk_cell HY8.out 1
            have hlY := blk_lt HY8.out
            simp only [List.getElem?_toArray, List.getElem?_cons_zero, List.getElem?_cons_succ] at hcY0 hcY1
            go_wp2
            go_ret
            exact ⟨by first | rfl | (simp; done), below_alloc (HB8.out) (.cells #[.int .i64 lv, .int .i64 lp] 25)⟩
          · rw [m5] at m6; cases m6
        · have h4' : (e4 == 0) = false := beq_eq_false_iff_ne.2 h4
          go_wp2
          go_ret
          exact ⟨by first | rfl | (simp; done), below_alloc (HB6.out) (.cells #[.int .i64 lv, .int .i64 lp] 25)⟩
theorem RecordBack_walk (cs0 : Array Value) (x0 : ByteArray × Int × Int × Bool) (cs1 : Array Value) (x1 : Int × Int) (s : ByteArray) (w : World) (hK0 : (Kd.pair Kd.string (Kd.pair OP.I64 (Kd.pair OP.I64 Kd.bool))).K w x0 cs0.toList) (ok0 : OP.small x0.1 ∧ OP.wf64 x0.2.1 ∧ OP.wf64 x0.2.2.1 ∧ True) (hK1 : (Kd.pair OP.I64 OP.I64).K w x1 cs1.toList) (ok1 : OP.wf64 x1.1 ∧ OP.wf64 x1.2) (hs : s.size ≤ 140737488351232) :
    Calls Try.prog 15 #[.agg cs0, .agg cs1, .string s] w fun e w' => e = .returned (.bool true) ∧ Below w.heap.size w w' := by
  rw [OP.rec_cells hK0, OP.ten_cells hK1]
  exact RecordBack_core _ _ _ _ _ _ s w ok0.1 hs
end Go.Proofs.Ytobanhbjkomieaa.RP
