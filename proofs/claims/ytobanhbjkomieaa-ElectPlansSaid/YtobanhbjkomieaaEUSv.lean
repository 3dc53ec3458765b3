import Derived.Test.YtobanhbjkomieaaESSv
import Derived.Shelf.Abstract
namespace Go.Proofs.Ytobanhbjkomieaa.RP
open Go.RowKit Go.Proofs.Ytobanhbjkomieaa.PAll Go.Proofs.Ytobanhbjkomieaa.KP Go.Proofs.Ytobanhbjkomieaa.BP Go.Proofs.YtobanhbjkomieaaW.PrintWords Go.Proofs.YtobanhbjkomieaaW.PrintLast Go.Proofs.YtobanhbjkomieaaW.PrintMore
set_option linter.unusedSimpArgs false
set_option linter.unusedVariables false
set_option maxHeartbeats 2000000 in
set_option maxRecDepth 100000 in
theorem plan_arg (kd : Int) (rep : ByteArray) (hr : rep.size ≤ 140737488351232) (ep tm : Int) (gone there : Bool) (mod live eps tmod : Int) (t c r : ByteArray) (ht : t.size ≤ 140737488351232) (hc : c.size ≤ 140737488351232) (now lim : Int)
  (h : (isName t.data.toList && (isName c.data.toList && decide (0 ≤ now ∧ now ≤ 1125899906842624))) = false) (w : World) :
  Calls Try.prog 108 #[.int .u8 kd, knA rep ep tm gone there mod live eps tmod, wiA t c r now lim] w (TxRes w [] [] 1) := by
 have n1 := fun W => knameA t ht W
 have n2 := fun W => knameA c hc W
 cases q1 : isName t.data.toList
 ·
  rw [q1] at n1
  have N1 := Lib.hid n1
  clear n1 n2 q1 h
  go_enter Try.func108, Try.ntmps108
  go_wp2_with fail
  refine (N1.out _).mono ?_
  rintro e w1 ⟨rfl, hb1⟩
  have HK1 := Lib.hid ((hb1.block (w.heap.size) (by simp; try omega)).trans (blk_alloc (blk_alloc (heap_alloc_new w (.cells #[.string rep, .int .i64 ep, .int .i64 tm, .bool gone, .bool there, .int .i64 mod, .int .i64 live, .int .i64 eps, .int .i64 tmod] 30)) (.cells #[.string t, .string c, .string r, .int .i64 now, .int .i64 lim] 156)) (.cells #[.slice none 0 0, .slice none 0 0] 34)))
  have HS1 := Lib.hid ((hb1.block (w.heap.size + 1) (by simp; try omega)).trans (blk_alloc (heap_alloc_at (w.alloc (.cells #[.string rep, .int .i64 ep, .int .i64 tm, .bool gone, .bool there, .int .i64 mod, .int .i64 live, .int .i64 eps, .int .i64 tmod] 30)) (.cells #[.string t, .string c, .string r, .int .i64 now, .int .i64 lim] 156) (n := w.heap.size + 1) (by simp)) (.cells #[.slice none 0 0, .slice none 0 0] 34)))
  have HT1 := Lib.hid ((hb1.block (w.heap.size + 2) (by simp)).trans (heap_alloc_at ((w.alloc (.cells #[.string rep, .int .i64 ep, .int .i64 tm, .bool gone, .bool there, .int .i64 mod, .int .i64 live, .int .i64 eps, .int .i64 tmod] 30)).alloc (.cells #[.string t, .string c, .string r, .int .i64 now, .int .i64 lim] 156)) (.cells #[.slice none 0 0, .slice none 0 0] 34) (n := w.heap.size + 2) (by simp)))
  have HB1 := Lib.hid ((below_alloc (below_alloc (below_alloc (Below.refl w.heap.size w) (.cells #[.string rep, .int .i64 ep, .int .i64 tm, .bool gone, .bool there, .int .i64 mod, .int .i64 live, .int .i64 eps, .int .i64 tmod] 30)) (.cells #[.string t, .string c, .string r, .int .i64 now, .int .i64 lim] 156)) (.cells #[.slice none 0 0, .slice none 0 0] 34)).trans (hb1.mono (by simp; try omega)))
  clear hb1
  have hcT0 := blk_cell HT1.out 0
  have hcT1 := blk_cell HT1.out 1
  have hlT := blk_lt HT1.out
  simp only [List.getElem?_toArray, List.getElem?_cons_zero, List.getElem?_cons_succ] at hcT0 hcT1
  have hzT0 := blk_frozen HT1.out 0
  have hzT1 := blk_frozen HT1.out 1
  go_wp2
  have hTr := blk_put (cs := #[.slice none 0 0, .slice none 0 0]) (blk_put (cs := #[.slice none 0 0, .slice none 0 0]) HT1.out 0 (.slice none 0 0) rfl) 1 (.slice none 0 0) rfl
  have hBr := (HB1.out.setCell (p := ⟨w.heap.size + 1 + 1, 0, none⟩) (by simp; omega) (.slice none 0 0)).setCell (p := ⟨w.heap.size + 1 + 1, 1, none⟩) (by simp; omega) (.slice none 0 0)
  refine bodyPost_ret (results_ct rfl _ _ (w.heap.size + 1 + 1) 34 #[.slice none 0 0, .slice none 0 0] (0, 0) _ rfl hTr Try.underlying34 rfl (by kernel_rfl)) rfl ?_
  exact ⟨_, _, rfl, Kd.R_nil _ _ _ _ _, Kd.R_nil _ _ _ _ _, hBr⟩
 rw [q1] at n1 h
 rw [Bool.true_and] at h
 cases q2 : isName c.data.toList
 ·
  rw [q2] at n2
  have N1 := Lib.hid n1
  have N2 := Lib.hid n2
  clear n1 n2 q1 q2 h
  go_enter Try.func108, Try.ntmps108
  go_wp2_with fail
  refine (N1.out _).mono ?_
  rintro e w1 ⟨rfl, hb1⟩
  have HK1 := Lib.hid ((hb1.block (w.heap.size) (by simp; try omega)).trans (blk_alloc (blk_alloc (heap_alloc_new w (.cells #[.string rep, .int .i64 ep, .int .i64 tm, .bool gone, .bool there, .int .i64 mod, .int .i64 live, .int .i64 eps, .int .i64 tmod] 30)) (.cells #[.string t, .string c, .string r, .int .i64 now, .int .i64 lim] 156)) (.cells #[.slice none 0 0, .slice none 0 0] 34)))
  have HS1 := Lib.hid ((hb1.block (w.heap.size + 1) (by simp; try omega)).trans (blk_alloc (heap_alloc_at (w.alloc (.cells #[.string rep, .int .i64 ep, .int .i64 tm, .bool gone, .bool there, .int .i64 mod, .int .i64 live, .int .i64 eps, .int .i64 tmod] 30)) (.cells #[.string t, .string c, .string r, .int .i64 now, .int .i64 lim] 156) (n := w.heap.size + 1) (by simp)) (.cells #[.slice none 0 0, .slice none 0 0] 34)))
  have HT1 := Lib.hid ((hb1.block (w.heap.size + 2) (by simp)).trans (heap_alloc_at ((w.alloc (.cells #[.string rep, .int .i64 ep, .int .i64 tm, .bool gone, .bool there, .int .i64 mod, .int .i64 live, .int .i64 eps, .int .i64 tmod] 30)).alloc (.cells #[.string t, .string c, .string r, .int .i64 now, .int .i64 lim] 156)) (.cells #[.slice none 0 0, .slice none 0 0] 34) (n := w.heap.size + 2) (by simp)))
  have HB1 := Lib.hid ((below_alloc (below_alloc (below_alloc (Below.refl w.heap.size w) (.cells #[.string rep, .int .i64 ep, .int .i64 tm, .bool gone, .bool there, .int .i64 mod, .int .i64 live, .int .i64 eps, .int .i64 tmod] 30)) (.cells #[.string t, .string c, .string r, .int .i64 now, .int .i64 lim] 156)) (.cells #[.slice none 0 0, .slice none 0 0] 34)).trans (hb1.mono (by simp; try omega)))
  clear hb1
  have hcS0 := blk_cell HS1.out 0
  have hcS1 := blk_cell HS1.out 1
  have hcS2 := blk_cell HS1.out 2
  have hcS3 := blk_cell HS1.out 3
  have hcS4 := blk_cell HS1.out 4
  have hlS := blk_lt HS1.out
  simp only [List.getElem?_toArray, List.getElem?_cons_zero, List.getElem?_cons_succ] at hcS0 hcS1 hcS2 hcS3 hcS4
  go_wp2_with fail
  refine (N2.out _).mono ?_
  rintro e w2 ⟨rfl, hb2⟩
  clear hcS0 hcS1 hcS2 hcS3 hcS4 hlS
  have HK2 := Lib.hid ((hb2.block _ (by have := blk_lt HK1.out; exact this)).trans HK1.out)
  have HS2 := Lib.hid ((hb2.block _ (by have := blk_lt HS1.out; exact this)).trans HS1.out)
  have HT2 := Lib.hid ((hb2.block _ (by have := blk_lt HT1.out; exact this)).trans HT1.out)
  have HB2 := Lib.hid ((HB1.out).trans (hb2.mono (by have := HB1.out.size; omega)))
  clear hb2
  have hcT0 := blk_cell HT2.out 0
  have hcT1 := blk_cell HT2.out 1
  have hlT := blk_lt HT2.out
  simp only [List.getElem?_toArray, List.getElem?_cons_zero, List.getElem?_cons_succ] at hcT0 hcT1
  have hzT0 := blk_frozen HT2.out 0
  have hzT1 := blk_frozen HT2.out 1
  go_wp2
  have hTr := blk_put (cs := #[.slice none 0 0, .slice none 0 0]) (blk_put (cs := #[.slice none 0 0, .slice none 0 0]) HT2.out 0 (.slice none 0 0) rfl) 1 (.slice none 0 0) rfl
  have hBr := (HB2.out.setCell (p := ⟨w.heap.size + 1 + 1, 0, none⟩) (by simp; omega) (.slice none 0 0)).setCell (p := ⟨w.heap.size + 1 + 1, 1, none⟩) (by simp; omega) (.slice none 0 0)
  refine bodyPost_ret (results_ct rfl _ _ (w.heap.size + 1 + 1) 34 #[.slice none 0 0, .slice none 0 0] (0, 0) _ rfl hTr Try.underlying34 rfl (by kernel_rfl)) rfl ?_
  exact ⟨_, _, rfl, Kd.R_nil _ _ _ _ _, Kd.R_nil _ _ _ _ _, hBr⟩
 rw [q2] at n2 h
 rw [Bool.true_and] at h
 have hn : now < 0 ∨ (0 ≤ now ∧ 1125899906842624 < now) := by have := of_decide_eq_false h; omega
 have N1 := Lib.hid n1
 have N2 := Lib.hid n2
 clear n1 n2 q1 q2 h
 rcases hn with h1 | ⟨h1, h2⟩
 ·
  go_enter Try.func108, Try.ntmps108
  go_wp2_with fail
  refine (N1.out _).mono ?_
  rintro e w1 ⟨rfl, hb1⟩
  have HK1 := Lib.hid ((hb1.block (w.heap.size) (by simp; try omega)).trans (blk_alloc (blk_alloc (heap_alloc_new w (.cells #[.string rep, .int .i64 ep, .int .i64 tm, .bool gone, .bool there, .int .i64 mod, .int .i64 live, .int .i64 eps, .int .i64 tmod] 30)) (.cells #[.string t, .string c, .string r, .int .i64 now, .int .i64 lim] 156)) (.cells #[.slice none 0 0, .slice none 0 0] 34)))
  have HS1 := Lib.hid ((hb1.block (w.heap.size + 1) (by simp; try omega)).trans (blk_alloc (heap_alloc_at (w.alloc (.cells #[.string rep, .int .i64 ep, .int .i64 tm, .bool gone, .bool there, .int .i64 mod, .int .i64 live, .int .i64 eps, .int .i64 tmod] 30)) (.cells #[.string t, .string c, .string r, .int .i64 now, .int .i64 lim] 156) (n := w.heap.size + 1) (by simp)) (.cells #[.slice none 0 0, .slice none 0 0] 34)))
  have HT1 := Lib.hid ((hb1.block (w.heap.size + 2) (by simp)).trans (heap_alloc_at ((w.alloc (.cells #[.string rep, .int .i64 ep, .int .i64 tm, .bool gone, .bool there, .int .i64 mod, .int .i64 live, .int .i64 eps, .int .i64 tmod] 30)).alloc (.cells #[.string t, .string c, .string r, .int .i64 now, .int .i64 lim] 156)) (.cells #[.slice none 0 0, .slice none 0 0] 34) (n := w.heap.size + 2) (by simp)))
  have HB1 := Lib.hid ((below_alloc (below_alloc (below_alloc (Below.refl w.heap.size w) (.cells #[.string rep, .int .i64 ep, .int .i64 tm, .bool gone, .bool there, .int .i64 mod, .int .i64 live, .int .i64 eps, .int .i64 tmod] 30)) (.cells #[.string t, .string c, .string r, .int .i64 now, .int .i64 lim] 156)) (.cells #[.slice none 0 0, .slice none 0 0] 34)).trans (hb1.mono (by simp; try omega)))
  clear hb1
  have hcS0 := blk_cell HS1.out 0
  have hcS1 := blk_cell HS1.out 1
  have hcS2 := blk_cell HS1.out 2
  have hcS3 := blk_cell HS1.out 3
  have hcS4 := blk_cell HS1.out 4
  have hlS := blk_lt HS1.out
  simp only [List.getElem?_toArray, List.getElem?_cons_zero, List.getElem?_cons_succ] at hcS0 hcS1 hcS2 hcS3 hcS4
  go_wp2_with fail
  refine (N2.out _).mono ?_
  rintro e w2 ⟨rfl, hb2⟩
  clear hcS0 hcS1 hcS2 hcS3 hcS4 hlS
  have HK2 := Lib.hid ((hb2.block _ (by have := blk_lt HK1.out; exact this)).trans HK1.out)
  have HS2 := Lib.hid ((hb2.block _ (by have := blk_lt HS1.out; exact this)).trans HS1.out)
  have HT2 := Lib.hid ((hb2.block _ (by have := blk_lt HT1.out; exact this)).trans HT1.out)
  have HB2 := Lib.hid ((HB1.out).trans (hb2.mono (by have := HB1.out.size; omega)))
  clear hb2
  have hcS0 := blk_cell HS2.out 0
  have hcS1 := blk_cell HS2.out 1
  have hcS2 := blk_cell HS2.out 2
  have hcS3 := blk_cell HS2.out 3
  have hcS4 := blk_cell HS2.out 4
  have hlS := blk_lt HS2.out
  have hcT0 := blk_cell HT2.out 0
  have hcT1 := blk_cell HT2.out 1
  have hlT := blk_lt HT2.out
  simp only [List.getElem?_toArray, List.getElem?_cons_zero, List.getElem?_cons_succ] at hcS0 hcS1 hcS2 hcS3 hcS4 hcT0 hcT1
  have hzT0 := blk_frozen HT2.out 0
  have hzT1 := blk_frozen HT2.out 1
  go_wp2
  have hTr := blk_put (cs := #[.slice none 0 0, .slice none 0 0]) (blk_put (cs := #[.slice none 0 0, .slice none 0 0]) HT2.out 0 (.slice none 0 0) rfl) 1 (.slice none 0 0) rfl
  have hBr := (HB2.out.setCell (p := ⟨w.heap.size + 1 + 1, 0, none⟩) (by simp; omega) (.slice none 0 0)).setCell (p := ⟨w.heap.size + 1 + 1, 1, none⟩) (by simp; omega) (.slice none 0 0)
  refine bodyPost_ret (results_ct rfl _ _ (w.heap.size + 1 + 1) 34 #[.slice none 0 0, .slice none 0 0] (0, 0) _ rfl hTr Try.underlying34 rfl (by kernel_rfl)) rfl ?_
  exact ⟨_, _, rfl, Kd.R_nil _ _ _ _ _, Kd.R_nil _ _ _ _ _, hBr⟩
 ·
  go_enter Try.func108, Try.ntmps108
  go_wp2_with fail
  refine (N1.out _).mono ?_
  rintro e w1 ⟨rfl, hb1⟩
  have HK1 := Lib.hid ((hb1.block (w.heap.size) (by simp; try omega)).trans (blk_alloc (blk_alloc (heap_alloc_new w (.cells #[.string rep, .int .i64 ep, .int .i64 tm, .bool gone, .bool there, .int .i64 mod, .int .i64 live, .int .i64 eps, .int .i64 tmod] 30)) (.cells #[.string t, .string c, .string r, .int .i64 now, .int .i64 lim] 156)) (.cells #[.slice none 0 0, .slice none 0 0] 34)))
  have HS1 := Lib.hid ((hb1.block (w.heap.size + 1) (by simp; try omega)).trans (blk_alloc (heap_alloc_at (w.alloc (.cells #[.string rep, .int .i64 ep, .int .i64 tm, .bool gone, .bool there, .int .i64 mod, .int .i64 live, .int .i64 eps, .int .i64 tmod] 30)) (.cells #[.string t, .string c, .string r, .int .i64 now, .int .i64 lim] 156) (n := w.heap.size + 1) (by simp)) (.cells #[.slice none 0 0, .slice none 0 0] 34)))
  have HT1 := Lib.hid ((hb1.block (w.heap.size + 2) (by simp)).trans (heap_alloc_at ((w.alloc (.cells #[.string rep, .int .i64 ep, .int .i64 tm, .bool gone, .bool there, .int .i64 mod, .int .i64 live, .int .i64 eps, .int .i64 tmod] 30)).alloc (.cells #[.string t, .string c, .string r, .int .i64 now, .int .i64 lim] 156)) (.cells #[.slice none 0 0, .slice none 0 0] 34) (n := w.heap.size + 2) (by simp)))
  have HB1 := Lib.hid ((below_alloc (below_alloc (below_alloc (Below.refl w.heap.size w) (.cells #[.string rep, .int .i64 ep, .int .i64 tm, .bool gone, .bool there, .int .i64 mod, .int .i64 live, .int .i64 eps, .int .i64 tmod] 30)) (.cells #[.string t, .string c, .string r, .int .i64 now, .int .i64 lim] 156)) (.cells #[.slice none 0 0, .slice none 0 0] 34)).trans (hb1.mono (by simp; try omega)))
  clear hb1
  have hcS0 := blk_cell HS1.out 0
  have hcS1 := blk_cell HS1.out 1
  have hcS2 := blk_cell HS1.out 2
  have hcS3 := blk_cell HS1.out 3
  have hcS4 := blk_cell HS1.out 4
  have hlS := blk_lt HS1.out
  simp only [List.getElem?_toArray, List.getElem?_cons_zero, List.getElem?_cons_succ] at hcS0 hcS1 hcS2 hcS3 hcS4
  go_wp2_with fail
  refine (N2.out _).mono ?_
  rintro e w2 ⟨rfl, hb2⟩
  clear hcS0 hcS1 hcS2 hcS3 hcS4 hlS
  have HK2 := Lib.hid ((hb2.block _ (by have := blk_lt HK1.out; exact this)).trans HK1.out)
  have HS2 := Lib.hid ((hb2.block _ (by have := blk_lt HS1.out; exact this)).trans HS1.out)
  have HT2 := Lib.hid ((hb2.block _ (by have := blk_lt HT1.out; exact this)).trans HT1.out)
  have HB2 := Lib.hid ((HB1.out).trans (hb2.mono (by have := HB1.out.size; omega)))
  clear hb2
  have hcS0 := blk_cell HS2.out 0
  have hcS1 := blk_cell HS2.out 1
  have hcS2 := blk_cell HS2.out 2
  have hcS3 := blk_cell HS2.out 3
  have hcS4 := blk_cell HS2.out 4
  have hlS := blk_lt HS2.out
  have hcT0 := blk_cell HT2.out 0
  have hcT1 := blk_cell HT2.out 1
  have hlT := blk_lt HT2.out
  simp only [List.getElem?_toArray, List.getElem?_cons_zero, List.getElem?_cons_succ] at hcS0 hcS1 hcS2 hcS3 hcS4 hcT0 hcT1
  have hzT0 := blk_frozen HT2.out 0
  have hzT1 := blk_frozen HT2.out 1
  go_wp2
  have hTr := blk_put (cs := #[.slice none 0 0, .slice none 0 0]) (blk_put (cs := #[.slice none 0 0, .slice none 0 0]) HT2.out 0 (.slice none 0 0) rfl) 1 (.slice none 0 0) rfl
  have hBr := (HB2.out.setCell (p := ⟨w.heap.size + 1 + 1, 0, none⟩) (by simp; omega) (.slice none 0 0)).setCell (p := ⟨w.heap.size + 1 + 1, 1, none⟩) (by simp; omega) (.slice none 0 0)
  refine bodyPost_ret (results_ct rfl _ _ (w.heap.size + 1 + 1) 34 #[.slice none 0 0, .slice none 0 0] (0, 0) _ rfl hTr Try.underlying34 rfl (by kernel_rfl)) rfl ?_
  exact ⟨_, _, rfl, Kd.R_nil _ _ _ _ _, Kd.R_nil _ _ _ _ _, hBr⟩
set_option maxHeartbeats 2000000 in
set_option maxRecDepth 100000 in
theorem plan_form (kd : Int) (rep : ByteArray) (hr : rep.size ≤ 140737488351232) (ep tm : Int) (gone there : Bool) (mod live eps tmod : Int) (t c r : ByteArray) (ht : t.size ≤ 140737488351232) (hc : c.size ≤ 140737488351232) (now lim : Int)
  (h1 : isName t.data.toList = true) (h2 : isName c.data.toList = true) (h3 : 0 ≤ now) (h4 : now ≤ 1125899906842624) (h5 : mayKn rep ep tm gone there mod live eps tmod = false) (w : World) :
  Calls Try.prog 108 #[.int .u8 kd, knA rep ep tm gone there mod live eps tmod, wiA t c r now lim] w (TxRes w [] [] 4) := by
 have n1 := fun W => knameA t ht W
 have n2 := fun W => knameA c hc W
 have m1 := fun W => electMay_any rep hr ep tm gone there mod live eps tmod W
 rw [h1] at n1
 rw [h2] at n2
 rw [h5] at m1
 have N1 := Lib.hid n1
 have N2 := Lib.hid n2
 have M1 := Lib.hid m1
 clear n1 n2 m1 h1 h2 h5
 go_enter Try.func108, Try.ntmps108
 go_wp2_with fail
 refine (N1.out _).mono ?_
 rintro e w1 ⟨rfl, hb1⟩
 have HK1 := Lib.hid ((hb1.block (w.heap.size) (by simp; try omega)).trans (blk_alloc (blk_alloc (heap_alloc_new w (.cells #[.string rep, .int .i64 ep, .int .i64 tm, .bool gone, .bool there, .int .i64 mod, .int .i64 live, .int .i64 eps, .int .i64 tmod] 30)) (.cells #[.string t, .string c, .string r, .int .i64 now, .int .i64 lim] 156)) (.cells #[.slice none 0 0, .slice none 0 0] 34)))
 have HS1 := Lib.hid ((hb1.block (w.heap.size + 1) (by simp; try omega)).trans (blk_alloc (heap_alloc_at (w.alloc (.cells #[.string rep, .int .i64 ep, .int .i64 tm, .bool gone, .bool there, .int .i64 mod, .int .i64 live, .int .i64 eps, .int .i64 tmod] 30)) (.cells #[.string t, .string c, .string r, .int .i64 now, .int .i64 lim] 156) (n := w.heap.size + 1) (by simp)) (.cells #[.slice none 0 0, .slice none 0 0] 34)))
 have HT1 := Lib.hid ((hb1.block (w.heap.size + 2) (by simp)).trans (heap_alloc_at ((w.alloc (.cells #[.string rep, .int .i64 ep, .int .i64 tm, .bool gone, .bool there, .int .i64 mod, .int .i64 live, .int .i64 eps, .int .i64 tmod] 30)).alloc (.cells #[.string t, .string c, .string r, .int .i64 now, .int .i64 lim] 156)) (.cells #[.slice none 0 0, .slice none 0 0] 34) (n := w.heap.size + 2) (by simp)))
 have HB1 := Lib.hid ((below_alloc (below_alloc (below_alloc (Below.refl w.heap.size w) (.cells #[.string rep, .int .i64 ep, .int .i64 tm, .bool gone, .bool there, .int .i64 mod, .int .i64 live, .int .i64 eps, .int .i64 tmod] 30)) (.cells #[.string t, .string c, .string r, .int .i64 now, .int .i64 lim] 156)) (.cells #[.slice none 0 0, .slice none 0 0] 34)).trans (hb1.mono (by simp; try omega)))
 clear hb1
 have hcS0 := blk_cell HS1.out 0
 have hcS1 := blk_cell HS1.out 1
 have hcS2 := blk_cell HS1.out 2
 have hcS3 := blk_cell HS1.out 3
 have hcS4 := blk_cell HS1.out 4
 have hlS := blk_lt HS1.out
 simp only [List.getElem?_toArray, List.getElem?_cons_zero, List.getElem?_cons_succ] at hcS0 hcS1 hcS2 hcS3 hcS4
 go_wp2_with fail
 refine (N2.out _).mono ?_
 rintro e w2 ⟨rfl, hb2⟩
 clear hcS0 hcS1 hcS2 hcS3 hcS4 hlS
 have HK2 := Lib.hid ((hb2.block _ (by have := blk_lt HK1.out; exact this)).trans HK1.out)
 have HS2 := Lib.hid ((hb2.block _ (by have := blk_lt HS1.out; exact this)).trans HS1.out)
 have HT2 := Lib.hid ((hb2.block _ (by have := blk_lt HT1.out; exact this)).trans HT1.out)
 have HB2 := Lib.hid ((HB1.out).trans (hb2.mono (by have := HB1.out.size; omega)))
 clear hb2
 have hcS0 := blk_cell HS2.out 0
 have hcS1 := blk_cell HS2.out 1
 have hcS2 := blk_cell HS2.out 2
 have hcS3 := blk_cell HS2.out 3
 have hcS4 := blk_cell HS2.out 4
 have hlS := blk_lt HS2.out
 have hcK0 := blk_cell HK2.out 0
 have hcK1 := blk_cell HK2.out 1
 have hcK2 := blk_cell HK2.out 2
 have hcK3 := blk_cell HK2.out 3
 have hcK4 := blk_cell HK2.out 4
 have hcK5 := blk_cell HK2.out 5
 have hcK6 := blk_cell HK2.out 6
 have hcK7 := blk_cell HK2.out 7
 have hcK8 := blk_cell HK2.out 8
 have hlK := blk_lt HK2.out
 simp only [List.getElem?_toArray, List.getElem?_cons_zero, List.getElem?_cons_succ] at hcS0 hcS1 hcS2 hcS3 hcS4 hcK0 hcK1 hcK2 hcK3 hcK4 hcK5 hcK6 hcK7 hcK8
 go_wp2_with fail
 refine (M1.out _).mono ?_
 rintro e w3 ⟨rfl, hb3⟩
 clear hcS0 hcS1 hcS2 hcS3 hcS4 hcK0 hcK1 hcK2 hcK3 hcK4 hcK5 hcK6 hcK7 hcK8 hlS hlK
 have HK3 := Lib.hid ((hb3.block _ (by have := blk_lt HK2.out; exact this)).trans HK2.out)
 have HS3 := Lib.hid ((hb3.block _ (by have := blk_lt HS2.out; exact this)).trans HS2.out)
 have HT3 := Lib.hid ((hb3.block _ (by have := blk_lt HT2.out; exact this)).trans HT2.out)
 have HB3 := Lib.hid ((HB2.out).trans (hb3.mono (by have := HB2.out.size; omega)))
 clear hb3
 have hcT0 := blk_cell HT3.out 0
 have hcT1 := blk_cell HT3.out 1
 have hlT := blk_lt HT3.out
 simp only [List.getElem?_toArray, List.getElem?_cons_zero, List.getElem?_cons_succ] at hcT0 hcT1
 have hzT0 := blk_frozen HT3.out 0
 have hzT1 := blk_frozen HT3.out 1
 go_wp2
 have hTr := blk_put (cs := #[.slice none 0 0, .slice none 0 0]) (blk_put (cs := #[.slice none 0 0, .slice none 0 0]) HT3.out 0 (.slice none 0 0) rfl) 1 (.slice none 0 0) rfl
 have hBr := (HB3.out.setCell (p := ⟨w.heap.size + 1 + 1, 0, none⟩) (by simp; omega) (.slice none 0 0)).setCell (p := ⟨w.heap.size + 1 + 1, 1, none⟩) (by simp; omega) (.slice none 0 0)
 refine bodyPost_ret (results_ct rfl _ _ (w.heap.size + 1 + 1) 34 #[.slice none 0 0, .slice none 0 0] (0, 0) _ rfl hTr Try.underlying34 rfl (by kernel_rfl)) rfl ?_
 exact ⟨_, _, rfl, Kd.R_nil _ _ _ _ _, Kd.R_nil _ _ _ _ _, hBr⟩
set_option maxHeartbeats 2000000 in
set_option maxRecDepth 100000 in
theorem plan_wrong (kd : Int) (fw ft : Nat) (both : Bool)
  (hidx : ∀ w, (Instr.index 211 rulesV (.int .u8 kd)).run Try.prog w = .ok (.agg #[.func (.func fw) #[] #[], .bool both, .func (.func ft) #[] #[]]) w)
  (ew : ∀ args w, (callFunc fw args).run Try.prog w = .ok (.enter fw args) w)
  (rep : ByteArray) (hr : rep.size ≤ 140737488351232) (ep tm : Int) (gone there : Bool) (mod live eps tmod : Int) (t c r : ByteArray) (ht : t.size ≤ 140737488351232) (hc : c.size ≤ 140737488351232) (now lim : Int)
  (h1 : isName t.data.toList = true) (h2 : isName c.data.toList = true) (h3 : 0 ≤ now) (h4 : now ≤ 1125899906842624) (h5 : mayKn rep ep tm gone there mod live eps tmod = true) (er : Int) (her : er ≠ 0)
  (s1 : ∀ W, Calls Try.prog fw #[knA rep ep tm gone there mod live eps tmod, wiA t c r now lim] W fun e w' => e = .returned (.int .i64 er) ∧ Below W.heap.size W w') (w : World) :
  Calls Try.prog 108 #[.int .u8 kd, knA rep ep tm gone there mod live eps tmod, wiA t c r now lim] w (TxRes w [] [] er) := by
 have S1 := Lib.hid s1
 clear s1
 have he0 : (er == 0) = false := beq_eq_false_iff_ne.2 her
 have he1 : (er != 0) = true := bne_iff_ne.2 her
 have n1 := fun W => knameA t ht W
 have n2 := fun W => knameA c hc W
 have m1 := fun W => electMay_any rep hr ep tm gone there mod live eps tmod W
 rw [h1] at n1
 rw [h2] at n2
 rw [h5] at m1
 have N1 := Lib.hid n1
 have N2 := Lib.hid n2
 have M1 := Lib.hid m1
 clear n1 n2 m1 h1 h2 h5
 go_enter Try.func108, Try.ntmps108
 go_wp2_with fail
 refine (N1.out _).mono ?_
 rintro e w1 ⟨rfl, hb1⟩
 have HK1 := Lib.hid ((hb1.block (w.heap.size) (by simp; try omega)).trans (blk_alloc (blk_alloc (heap_alloc_new w (.cells #[.string rep, .int .i64 ep, .int .i64 tm, .bool gone, .bool there, .int .i64 mod, .int .i64 live, .int .i64 eps, .int .i64 tmod] 30)) (.cells #[.string t, .string c, .string r, .int .i64 now, .int .i64 lim] 156)) (.cells #[.slice none 0 0, .slice none 0 0] 34)))
 have HS1 := Lib.hid ((hb1.block (w.heap.size + 1) (by simp; try omega)).trans (blk_alloc (heap_alloc_at (w.alloc (.cells #[.string rep, .int .i64 ep, .int .i64 tm, .bool gone, .bool there, .int .i64 mod, .int .i64 live, .int .i64 eps, .int .i64 tmod] 30)) (.cells #[.string t, .string c, .string r, .int .i64 now, .int .i64 lim] 156) (n := w.heap.size + 1) (by simp)) (.cells #[.slice none 0 0, .slice none 0 0] 34)))
 have HT1 := Lib.hid ((hb1.block (w.heap.size + 2) (by simp)).trans (heap_alloc_at ((w.alloc (.cells #[.string rep, .int .i64 ep, .int .i64 tm, .bool gone, .bool there, .int .i64 mod, .int .i64 live, .int .i64 eps, .int .i64 tmod] 30)).alloc (.cells #[.string t, .string c, .string r, .int .i64 now, .int .i64 lim] 156)) (.cells #[.slice none 0 0, .slice none 0 0] 34) (n := w.heap.size + 2) (by simp)))
 have HB1 := Lib.hid ((below_alloc (below_alloc (below_alloc (Below.refl w.heap.size w) (.cells #[.string rep, .int .i64 ep, .int .i64 tm, .bool gone, .bool there, .int .i64 mod, .int .i64 live, .int .i64 eps, .int .i64 tmod] 30)) (.cells #[.string t, .string c, .string r, .int .i64 now, .int .i64 lim] 156)) (.cells #[.slice none 0 0, .slice none 0 0] 34)).trans (hb1.mono (by simp; try omega)))
 clear hb1
 have hcS0 := blk_cell HS1.out 0
 have hcS1 := blk_cell HS1.out 1
 have hcS2 := blk_cell HS1.out 2
 have hcS3 := blk_cell HS1.out 3
 have hcS4 := blk_cell HS1.out 4
 have hlS := blk_lt HS1.out
 simp only [List.getElem?_toArray, List.getElem?_cons_zero, List.getElem?_cons_succ] at hcS0 hcS1 hcS2 hcS3 hcS4
 go_wp2_with fail
 refine (N2.out _).mono ?_
 rintro e w2 ⟨rfl, hb2⟩
 clear hcS0 hcS1 hcS2 hcS3 hcS4 hlS
 have HK2 := Lib.hid ((hb2.block _ (by have := blk_lt HK1.out; exact this)).trans HK1.out)
 have HS2 := Lib.hid ((hb2.block _ (by have := blk_lt HS1.out; exact this)).trans HS1.out)
 have HT2 := Lib.hid ((hb2.block _ (by have := blk_lt HT1.out; exact this)).trans HT1.out)
 have HB2 := Lib.hid ((HB1.out).trans (hb2.mono (by have := HB1.out.size; omega)))
 clear hb2
 have hcS0 := blk_cell HS2.out 0
 have hcS1 := blk_cell HS2.out 1
 have hcS2 := blk_cell HS2.out 2
 have hcS3 := blk_cell HS2.out 3
 have hcS4 := blk_cell HS2.out 4
 have hlS := blk_lt HS2.out
 have hcK0 := blk_cell HK2.out 0
 have hcK1 := blk_cell HK2.out 1
 have hcK2 := blk_cell HK2.out 2
 have hcK3 := blk_cell HK2.out 3
 have hcK4 := blk_cell HK2.out 4
 have hcK5 := blk_cell HK2.out 5
 have hcK6 := blk_cell HK2.out 6
 have hcK7 := blk_cell HK2.out 7
 have hcK8 := blk_cell HK2.out 8
 have hlK := blk_lt HK2.out
 simp only [List.getElem?_toArray, List.getElem?_cons_zero, List.getElem?_cons_succ] at hcS0 hcS1 hcS2 hcS3 hcS4 hcK0 hcK1 hcK2 hcK3 hcK4 hcK5 hcK6 hcK7 hcK8
 go_wp2_with fail
 refine (M1.out _).mono ?_
 rintro e w3 ⟨rfl, hb3⟩
 clear hcS0 hcS1 hcS2 hcS3 hcS4 hcK0 hcK1 hcK2 hcK3 hcK4 hcK5 hcK6 hcK7 hcK8 hlS hlK
 have HK3 := Lib.hid ((hb3.block _ (by have := blk_lt HK2.out; exact this)).trans HK2.out)
 have HS3 := Lib.hid ((hb3.block _ (by have := blk_lt HS2.out; exact this)).trans HS2.out)
 have HT3 := Lib.hid ((hb3.block _ (by have := blk_lt HT2.out; exact this)).trans HT2.out)
 have HB3 := Lib.hid ((HB2.out).trans (hb3.mono (by have := HB2.out.size; omega)))
 clear hb3
 go_wp2_with fail
 refine (rules_any _).mono ?_
 rintro e w4 ⟨rfl, hb4⟩
 have HK4 := Lib.hid ((hb4.block _ (by have := blk_lt HK3.out; exact this)).trans HK3.out)
 have HS4 := Lib.hid ((hb4.block _ (by have := blk_lt HS3.out; exact this)).trans HS3.out)
 have HT4 := Lib.hid ((hb4.block _ (by have := blk_lt HT3.out; exact this)).trans HT3.out)
 have HB4 := Lib.hid ((HB3.out).trans (hb4.mono (by have := HB3.out.size; omega)))
 clear hb4
 have hcK0 := blk_cell HK4.out 0
 have hcK1 := blk_cell HK4.out 1
 have hcK2 := blk_cell HK4.out 2
 have hcK3 := blk_cell HK4.out 3
 have hcK4 := blk_cell HK4.out 4
 have hcK5 := blk_cell HK4.out 5
 have hcK6 := blk_cell HK4.out 6
 have hcK7 := blk_cell HK4.out 7
 have hcK8 := blk_cell HK4.out 8
 have hlK := blk_lt HK4.out
 have hcS0 := blk_cell HS4.out 0
 have hcS1 := blk_cell HS4.out 1
 have hcS2 := blk_cell HS4.out 2
 have hcS3 := blk_cell HS4.out 3
 have hcS4 := blk_cell HS4.out 4
 have hlS := blk_lt HS4.out
 simp only [List.getElem?_toArray, List.getElem?_cons_zero, List.getElem?_cons_succ] at hcK0 hcK1 hcK2 hcK3 hcK4 hcK5 hcK6 hcK7 hcK8 hcS0 hcS1 hcS2 hcS3 hcS4
 go_wp2_with fail
 refine (S1.out _).mono ?_
 rintro e w5 ⟨rfl, hb5⟩
 clear hcK0 hcK1 hcK2 hcK3 hcK4 hcK5 hcK6 hcK7 hcK8 hcS0 hcS1 hcS2 hcS3 hcS4 hlK hlS
 have HK5 := Lib.hid ((hb5.block _ (by have := blk_lt HK4.out; simp; omega)).trans (blk_alloc HK4.out (.cells #[.func (.func fw) #[] #[], .bool both, .func (.func ft) #[] #[]] 210)))
 have HS5 := Lib.hid ((hb5.block _ (by have := blk_lt HS4.out; simp; omega)).trans (blk_alloc HS4.out (.cells #[.func (.func fw) #[] #[], .bool both, .func (.func ft) #[] #[]] 210)))
 have HT5 := Lib.hid ((hb5.block _ (by have := blk_lt HT4.out; simp; omega)).trans (blk_alloc HT4.out (.cells #[.func (.func fw) #[] #[], .bool both, .func (.func ft) #[] #[]] 210)))
 have HU5 := Lib.hid ((hb5.block (w4.heap.size) (by simp)).trans (heap_alloc_new w4 (.cells #[.func (.func fw) #[] #[], .bool both, .func (.func ft) #[] #[]] 210)))
 have HB5 := Lib.hid ((below_alloc (HB4.out) (.cells #[.func (.func fw) #[] #[], .bool both, .func (.func ft) #[] #[]] 210)).trans (hb5.mono (by have := HB4.out.size; simp; omega)))
 clear hb5
 have hcT0 := blk_cell HT5.out 0
 have hcT1 := blk_cell HT5.out 1
 have hlT := blk_lt HT5.out
 simp only [List.getElem?_toArray, List.getElem?_cons_zero, List.getElem?_cons_succ] at hcT0 hcT1
 have hzT0 := blk_frozen HT5.out 0
 have hzT1 := blk_frozen HT5.out 1
 go_wp2
 have hTr := blk_put (cs := #[.slice none 0 0, .slice none 0 0]) (blk_put (cs := #[.slice none 0 0, .slice none 0 0]) HT5.out 0 (.slice none 0 0) rfl) 1 (.slice none 0 0) rfl
 have hBr := (HB5.out.setCell (p := ⟨w.heap.size + 1 + 1, 0, none⟩) (by simp; omega) (.slice none 0 0)).setCell (p := ⟨w.heap.size + 1 + 1, 1, none⟩) (by simp; omega) (.slice none 0 0)
 refine bodyPost_ret (results_ct rfl _ _ (w.heap.size + 1 + 1) 34 #[.slice none 0 0, .slice none 0 0] (0, 0) _ rfl hTr Try.underlying34 rfl (by kernel_rfl)) rfl ?_
 exact ⟨_, _, rfl, Kd.R_nil _ _ _ _ _, Kd.R_nil _ _ _ _ _, hBr⟩
def rv (rep : ByteArray) (ep tm : Int) (gone : Bool) : ByteArray := if mayRec rep ep tm then strOfNums (recBytes rep ep tm gone) else ⟨#[]⟩
def tv (live eps : Int) : ByteArray := if mayTen live eps then strOfNums (tenBytes live eps) else ⟨#[]⟩
def ck (t c : ByteArray) : ByteArray := ⟨(clusterK t.data.toList c.data.toList).toArray⟩
def tk (t : ByteArray) : ByteArray := ⟨(tenantK t.data.toList).toArray⟩
def argOk (t c : ByteArray) (now : Int) : Bool := isName t.data.toList && (isName c.data.toList && decide (0 ≤ now ∧ now ≤ 1125899906842624))
section
variable (rep : ByteArray) (ep tm : Int) (gone there : Bool) (mod live eps tmod : Int) (t c r : ByteArray) (now lim : Int)
abbrev Out := List Cnd × List Opn × Int
def crowdE : Int := if (there && !gone) = false ∧ lim ≤ live then 60 else if eps = 1099511627776 ∨ ((there && !gone) = false ∧ live = 1048576) then 40 else 0
def electO : Out := if (argOk t c now && isName r.data.toList && decide (1 ≤ lim)) = false then ([], [], 1) else if mayKn rep ep tm gone there mod live eps tmod = false then ([], [], 4)
 else if crowdE gone there live eps lim ≠ 0 then ([], [], crowdE gone there live eps lim)
 else ([⟨ck t c, mod⟩, ⟨tk t, tmod⟩], [⟨false, ck t c, rv r (eps + 1) now false⟩, ⟨false, tk t, tv (if (there && !gone) = true then live else live + 1) (eps + 1)⟩], 0)
def renewO : Out := if argOk t c now = false then ([], [], 1) else if mayKn rep ep tm gone there mod live eps tmod = false then ([], [], 4)
 else if staleE gone there tm now ≠ 0 then ([], [], staleE gone there tm now) else ([⟨ck t c, mod⟩], [⟨false, ck t c, rv rep ep now gone⟩], 0)
def buryE : Int := if live = 0 then 46 else staleE gone there tm now
def buryO : Out := if argOk t c now = false then ([], [], 1) else if mayKn rep ep tm gone there mod live eps tmod = false then ([], [], 4)
 else if buryE tm gone there live now ≠ 0 then ([], [], buryE tm gone there live now) else ([⟨ck t c, mod⟩, ⟨tk t, tmod⟩], [⟨false, ck t c, rv rep ep now true⟩, ⟨false, tk t, tv (live - 1) eps⟩], 0)
def sweepE : Int := if there = true ∧ gone = true then 0 else 46
def sweepO : Out := if argOk t c 0 = false then ([], [], 1) else if mayKn rep ep tm gone there mod live eps tmod = false then ([], [], 4)
 else if sweepE gone there ≠ 0 then ([], [], sweepE gone there) else ([⟨ck t c, mod⟩], [⟨true, ck t c, ⟨#[]⟩⟩], 0)
end
theorem argOk_true {t c : ByteArray} {now : Int} (h : argOk t c now = true) : isName t.data.toList = true ∧ isName c.data.toList = true ∧ 0 ≤ now ∧ now ≤ 1125899906842624 := by
 unfold argOk at h
 rw [Bool.and_eq_true, Bool.and_eq_true, decide_eq_true_eq] at h
 exact ⟨h.1, h.2.1, h.2.2⟩
theorem mayKn_bd {rep : ByteArray} {ep tm : Int} {gone there : Bool} {mod live eps tmod : Int} (h : mayKn rep ep tm gone there mod live eps tmod = true) : (0 ≤ live ∧ live ≤ 1048576) ∧ 0 ≤ eps ∧ eps ≤ 1099511627776 := by
 unfold mayKn at h
 rw [Bool.and_eq_true] at h
 obtain ⟨_, h⟩ := h
 split at h
 ·
  simp at h; omega
 ·
  rw [Bool.and_eq_true] at h
  obtain ⟨_, h⟩ := h
  unfold mayTen at h
  rw [decide_eq_true_eq] at h
  omega
theorem tenE_any (live eps : Int) (W : World) : Calls Try.prog 83 #[.agg #[.int .i64 live, .int .i64 eps]] W fun e w' => e = .returned (.tuple #[.string (tv live eps), .int .i64 (if mayTen live eps then 0 else 4)]) ∧ Below W.heap.size W w' := by
 refine (encodeTen_any live eps W).mono fun e w' h => ⟨?_, h.2⟩
 rw [h.1]
 unfold encTenRes tv
 split <;> rfl
theorem op_put (key rep : ByteArray) (hr : rep.size ≤ 140737488351232) (ep tm : Int) (gone : Bool) (mod live eps tmod : Int) (W : World) :
  Calls Try.prog 169 #[.string key, knA rep ep tm gone true mod live eps tmod] W fun e w' => e = .returned (.agg #[.bool false, .string key, .string (rv rep ep tm gone)]) ∧ Below W.heap.size W w' := by
 refine PEl.elect_op.calls key _ _ _ _ _ _ _ _ _ false key _ W ?_
 unfold PEl.elect_op.f PEl.record_Encode.f rv
 rw [if_pos rfl, if_pos hr]
 rfl
theorem op_del (key rep : ByteArray) (ep tm : Int) (gone : Bool) (mod live eps tmod : Int) (W : World) :
  Calls Try.prog 169 #[.string key, knA rep ep tm gone false mod live eps tmod] W fun e w' => e = .returned (.agg #[.bool true, .string key, .string ⟨#[]⟩]) ∧ Below W.heap.size W w' := by
 refine PEl.elect_op.calls key _ _ _ _ _ _ _ _ _ true key _ W ?_
 unfold PEl.elect_op.f
 rw [if_neg (by simp)]
theorem crowded_any (rep : ByteArray) (ep tm : Int) (gone there : Bool) (mod live eps tmod : Int) (t c r : ByteArray) (now lim : Int) (w : World) :
  Calls Try.prog 194 #[knA rep ep tm gone there mod live eps tmod, wiA t c r now lim] w fun e w' => e = .returned (.int .i64 (crowdE gone there live eps lim)) ∧ Below w.heap.size w w' := by
 refine PEl.elect_crowded.calls 1 _ _ _ _ _ _ _ _ _ _ _ _ _ _ _ w ?_
 unfold PEl.elect_crowded.f PEl.elect_Known_Live.f crowdE
 cases there <;> cases gone <;> simp [PEl.elect_crowded.j0]
 all_goals (repeat' split) <;> first | rfl | omega | (simp_all; try omega)
theorem bury1_any (rep : ByteArray) (ep tm : Int) (gone there : Bool) (mod live eps tmod : Int) (t c r : ByteArray) (now lim : Int) (w : World) :
  Calls Try.prog 198 #[knA rep ep tm gone there mod live eps tmod, wiA t c r now lim] w fun e w' => e = .returned (.int .i64 (buryE tm gone there live now)) ∧ Below w.heap.size w w' := by
 refine PEl.elect_rules_1.calls _ _ _ _ _ _ _ _ _ _ _ _ _ _ _ w ?_
 unfold PEl.elect_rules_1.f PEl.elect_stale.f PEl.elect_Known_Live.f buryE staleE
 cases there <;> cases gone <;> simp
 all_goals (repeat' split) <;> first | rfl | omega | (simp_all; try omega)
theorem sweep1_any (rep : ByteArray) (ep tm : Int) (gone there : Bool) (mod live eps tmod : Int) (t c r : ByteArray) (now lim : Int) (w : World) :
  Calls Try.prog 200 #[knA rep ep tm gone there mod live eps tmod, wiA t c r now lim] w fun e w' => e = .returned (.int .i64 (sweepE gone there)) ∧ Below w.heap.size w w' := by
 refine PEl.elect_rules_2.calls _ _ _ _ _ _ _ _ _ _ _ _ _ _ _ w ?_
 unfold PEl.elect_rules_2.f PEl.elect_Known_Live.f sweepE
 cases there <;> cases gone <;> simp
theorem enters_1 : (∀ args w, (callFunc 194 args).run Try.prog w = .ok (.enter 194 args) w) ∧ ∀ args w, (callFunc 195 args).run Try.prog w = .ok (.enter 195 args) w :=
 ⟨Go.Proofs.enters_of Try.func194 (by kernel_rfl) rfl, Go.Proofs.enters_of Try.func195 (by kernel_rfl) rfl⟩
theorem plan1_any (rep : ByteArray) (hr : rep.size ≤ 140737488351232) (ep tm : Int) (gone there : Bool) (mod live eps tmod : Int) (t c r : ByteArray) (ht : t.size ≤ 140737488351232) (hc : c.size ≤ 140737488351232) (hrr : r.size ≤ 140737488351232) (now lim : Int) (hnm : isName r.data.toList = true) (hlim : 1 ≤ lim) (w : World) :
  Calls Try.prog 108 #[.int .u8 1, knA rep ep tm gone there mod live eps tmod, wiA t c r now lim] w (TxRes w (electO rep ep tm gone there mod live eps tmod t c r now lim).1 (electO rep ep tm gone there mod live eps tmod t c r now lim).2.1 (electO rep ep tm gone there mod live eps tmod t c r now lim).2.2) := by
 unfold electO
 rw [hnm, decide_eq_true hlim, Bool.and_true, Bool.and_true]
 by_cases ha : argOk t c now = false
 ·
  rw [if_pos ha]; exact plan_arg 1 rep hr ep tm gone there mod live eps tmod t c r ht hc now lim ha w
 rw [if_neg ha]
 obtain ⟨h1, h2, h3, h4⟩ := argOk_true (by simpa using ha)
 by_cases hm : mayKn rep ep tm gone there mod live eps tmod = false
 ·
  rw [if_pos hm]; exact plan_form 1 rep hr ep tm gone there mod live eps tmod t c r ht hc now lim h1 h2 h3 h4 hm w
 rw [if_neg hm]
 have hm' : mayKn rep ep tm gone there mod live eps tmod = true := by simpa using hm
 obtain ⟨hb1, hb2⟩ := mayKn_bd hm'
 by_cases he : crowdE gone there live eps lim ≠ 0
 ·
  rw [if_pos he]; exact plan_wrong 1 194 195 true idx1 enters_1.1 rep hr ep tm gone there mod live eps tmod t c r ht hc now lim h1 h2 h3 h4 hm' _ he (fun W => crowded_any rep ep tm gone there mod live eps tmod t c r now lim W) w
 rw [if_neg he]
 have he' : crowdE gone there live eps lim = 0 := by simpa using he
 have hs := fun W => crowded_any rep ep tm gone there mod live eps tmod t c r now lim W
 rw [he'] at hs
 exact plan_any 1 194 195 true idx1 enters_1.1 enters_1.2 rep hr ep tm gone there mod live eps tmod t c r ht hc now lim h1 h2 h3 h4 hm' r (eps + 1) now false true mod (if (there && !gone) = true then live else live + 1) (eps + 1) tmod false (ck t c) (rv r (eps + 1) now false) (tv (if (there && !gone) = true then live else live + 1) (eps + 1)) _ hs (fun W => elected_any rep ep tm gone there mod live eps tmod t c r now lim W hb1 hb2) (fun W => op_put (ck t c) r hrr _ _ _ _ _ _ _ W) (fun W => tenE_any _ _ W) _ _ ⟨rfl, rfl⟩ w
theorem enters_2 : (∀ args w, (callFunc 196 args).run Try.prog w = .ok (.enter 196 args) w) ∧ ∀ args w, (callFunc 197 args).run Try.prog w = .ok (.enter 197 args) w :=
 ⟨Go.Proofs.enters_of Try.func196 (by kernel_rfl) rfl, Go.Proofs.enters_of Try.func197 (by kernel_rfl) rfl⟩
theorem plan2_any (rep : ByteArray) (hr : rep.size ≤ 140737488351232) (ep tm : Int) (gone there : Bool) (mod live eps tmod : Int) (t c r : ByteArray) (ht : t.size ≤ 140737488351232) (hc : c.size ≤ 140737488351232) (now lim : Int) (w : World) :
  Calls Try.prog 108 #[.int .u8 2, knA rep ep tm gone there mod live eps tmod, wiA t c r now lim] w (TxRes w (renewO rep ep tm gone there mod live eps tmod t c now).1 (renewO rep ep tm gone there mod live eps tmod t c now).2.1 (renewO rep ep tm gone there mod live eps tmod t c now).2.2) := by
 unfold renewO
 by_cases ha : argOk t c now = false
 ·
  rw [if_pos ha]; exact plan_arg 2 rep hr ep tm gone there mod live eps tmod t c r ht hc now lim ha w
 rw [if_neg ha]
 obtain ⟨h1, h2, h3, h4⟩ := argOk_true (by simpa using ha)
 by_cases hm : mayKn rep ep tm gone there mod live eps tmod = false
 ·
  rw [if_pos hm]; exact plan_form 2 rep hr ep tm gone there mod live eps tmod t c r ht hc now lim h1 h2 h3 h4 hm w
 rw [if_neg hm]
 have hm' : mayKn rep ep tm gone there mod live eps tmod = true := by simpa using hm
 obtain ⟨hb1, hb2⟩ := mayKn_bd hm'
 by_cases he : staleE gone there tm now ≠ 0
 ·
  rw [if_pos he]; exact plan_wrong 2 196 197 false idx2 enters_2.1 rep hr ep tm gone there mod live eps tmod t c r ht hc now lim h1 h2 h3 h4 hm' _ he (fun W => stale_any rep ep tm gone there mod live eps tmod t c r now lim W) w
 rw [if_neg he]
 have he' : staleE gone there tm now = 0 := by simpa using he
 have hs := fun W => stale_any rep ep tm gone there mod live eps tmod t c r now lim W
 rw [he'] at hs
 have hth : there = true := by revert he'; unfold staleE; cases there <;> simp
 subst hth
 exact plan_any 2 196 197 false idx2 enters_2.1 enters_2.2 rep hr ep tm gone true mod live eps tmod t c r ht hc now lim h1 h2 h3 h4 hm' rep ep now gone true mod live eps tmod false (ck t c) (rv rep ep now gone) (tv live eps) _ hs (fun W => PEl.elect_later.calls rep ep tm gone true mod live eps tmod t c r now lim _ _ _ _ _ _ _ _ _ W rfl) (fun W => op_put (ck t c) rep hr _ _ _ _ _ _ _ W) (fun W => tenE_any _ _ W) _ _ ⟨rfl, rfl⟩ w
theorem enters_3 : (∀ args w, (callFunc 198 args).run Try.prog w = .ok (.enter 198 args) w) ∧ ∀ args w, (callFunc 199 args).run Try.prog w = .ok (.enter 199 args) w :=
 ⟨Go.Proofs.enters_of Try.func198 (by kernel_rfl) rfl, Go.Proofs.enters_of Try.func199 (by kernel_rfl) rfl⟩
theorem plan3_any (rep : ByteArray) (hr : rep.size ≤ 140737488351232) (ep tm : Int) (gone there : Bool) (mod live eps tmod : Int) (t c r : ByteArray) (ht : t.size ≤ 140737488351232) (hc : c.size ≤ 140737488351232) (now lim : Int) (w : World) :
  Calls Try.prog 108 #[.int .u8 3, knA rep ep tm gone there mod live eps tmod, wiA t c r now lim] w (TxRes w (buryO rep ep tm gone there mod live eps tmod t c now).1 (buryO rep ep tm gone there mod live eps tmod t c now).2.1 (buryO rep ep tm gone there mod live eps tmod t c now).2.2) := by
 unfold buryO
 by_cases ha : argOk t c now = false
 ·
  rw [if_pos ha]; exact plan_arg 3 rep hr ep tm gone there mod live eps tmod t c r ht hc now lim ha w
 rw [if_neg ha]
 obtain ⟨h1, h2, h3, h4⟩ := argOk_true (by simpa using ha)
 by_cases hm : mayKn rep ep tm gone there mod live eps tmod = false
 ·
  rw [if_pos hm]; exact plan_form 3 rep hr ep tm gone there mod live eps tmod t c r ht hc now lim h1 h2 h3 h4 hm w
 rw [if_neg hm]
 have hm' : mayKn rep ep tm gone there mod live eps tmod = true := by simpa using hm
 obtain ⟨hb1, hb2⟩ := mayKn_bd hm'
 by_cases he : buryE tm gone there live now ≠ 0
 ·
  rw [if_pos he]; exact plan_wrong 3 198 199 true idx3 enters_3.1 rep hr ep tm gone there mod live eps tmod t c r ht hc now lim h1 h2 h3 h4 hm' _ he (fun W => bury1_any rep ep tm gone there mod live eps tmod t c r now lim W) w
 rw [if_neg he]
 have he' : buryE tm gone there live now = 0 := by simpa using he
 have hs := fun W => bury1_any rep ep tm gone there mod live eps tmod t c r now lim W
 rw [he'] at hs
 have hth : there = true ∧ live ≠ 0 := by revert he'; unfold buryE staleE; cases there <;> simp <;> (repeat' split) <;> simp_all
 obtain ⟨hth, hl⟩ := hth
 subst hth
 have hw : wrap64 (live - 1) = live - 1 := by unfold wrap64; omega
 exact plan_any 3 198 199 true idx3 enters_3.1 enters_3.2 rep hr ep tm gone true mod live eps tmod t c r ht hc now lim h1 h2 h3 h4 hm' rep ep now true true mod (live - 1) eps tmod false (ck t c) (rv rep ep now true) (tv (live - 1) eps) _ hs (fun W => PEl.elect_buried.calls rep ep tm gone true mod live eps tmod t c r now lim _ _ _ _ _ _ _ _ _ W (by unfold PEl.elect_buried.f; rw [hw])) (fun W => op_put (ck t c) rep hr _ _ _ _ _ _ _ W) (fun W => tenE_any _ _ W) _ _ ⟨rfl, rfl⟩ w
theorem enters_4 : (∀ args w, (callFunc 200 args).run Try.prog w = .ok (.enter 200 args) w) ∧ ∀ args w, (callFunc 201 args).run Try.prog w = .ok (.enter 201 args) w :=
 ⟨Go.Proofs.enters_of Try.func200 (by kernel_rfl) rfl, Go.Proofs.enters_of Try.func201 (by kernel_rfl) rfl⟩
theorem plan4_any (rep : ByteArray) (hr : rep.size ≤ 140737488351232) (ep tm : Int) (gone there : Bool) (mod live eps tmod : Int) (t c r : ByteArray) (ht : t.size ≤ 140737488351232) (hc : c.size ≤ 140737488351232) (now lim : Int) (w : World) :
  Calls Try.prog 108 #[.int .u8 4, knA rep ep tm gone there mod live eps tmod, wiA t c r 0 lim] w (TxRes w (sweepO rep ep tm gone there mod live eps tmod t c).1 (sweepO rep ep tm gone there mod live eps tmod t c).2.1 (sweepO rep ep tm gone there mod live eps tmod t c).2.2) := by
 unfold sweepO
 by_cases ha : argOk t c 0 = false
 ·
  rw [if_pos ha]; exact plan_arg 4 rep hr ep tm gone there mod live eps tmod t c r ht hc 0 lim ha w
 rw [if_neg ha]
 obtain ⟨h1, h2, h3, h4⟩ := argOk_true (by simpa using ha)
 by_cases hm : mayKn rep ep tm gone there mod live eps tmod = false
 ·
  rw [if_pos hm]; exact plan_form 4 rep hr ep tm gone there mod live eps tmod t c r ht hc 0 lim h1 h2 h3 h4 hm w
 rw [if_neg hm]
 have hm' : mayKn rep ep tm gone there mod live eps tmod = true := by simpa using hm
 obtain ⟨hb1, hb2⟩ := mayKn_bd hm'
 by_cases he : sweepE gone there ≠ 0
 ·
  rw [if_pos he]; exact plan_wrong 4 200 201 false idx4 enters_4.1 rep hr ep tm gone there mod live eps tmod t c r ht hc 0 lim h1 h2 h3 h4 hm' _ he (fun W => sweep1_any rep ep tm gone there mod live eps tmod t c r 0 lim W) w
 rw [if_neg he]
 have he' : sweepE gone there = 0 := by simpa using he
 have hs := fun W => sweep1_any rep ep tm gone there mod live eps tmod t c r 0 lim W
 rw [he'] at hs
 exact plan_any 4 200 201 false idx4 enters_4.1 enters_4.2 rep hr ep tm gone there mod live eps tmod t c r ht hc 0 lim h1 h2 h3 h4 hm' rep ep tm gone false mod live eps tmod true (ck t c) ⟨#[]⟩ (tv live eps) _ hs (fun W => PEl.elect_rules_3.calls rep ep tm gone there mod live eps tmod t c r 0 lim _ _ _ _ _ _ _ _ _ W rfl) (fun W => op_del (ck t c) rep _ _ _ _ _ _ _ W) (fun W => tenE_any _ _ W) _ _ ⟨rfl, rfl⟩ w
set_option maxHeartbeats 2000000 in
set_option maxRecDepth 100000 in
theorem elect_any (rep : ByteArray) (hr : rep.size ≤ 140737488351232) (ep tm : Int) (gone there : Bool) (mod live eps tmod : Int) (t c r : ByteArray) (ht : t.size ≤ 140737488351232) (hc : c.size ≤ 140737488351232) (hrr : r.size ≤ 140737488351232) (now lim : Int) (w : World) :
  Calls Try.prog 25 #[knA rep ep tm gone there mod live eps tmod, .string t, .string c, .string r, .int .i64 now, .int .i64 lim] w (TxRes w (electO rep ep tm gone there mod live eps tmod t c r now lim).1 (electO rep ep tm gone there mod live eps tmod t c r now lim).2.1 (electO rep ep tm gone there mod live eps tmod t c r now lim).2.2) := by
 have n1 := fun W => knameA r hrr W
 cases q1 : isName r.data.toList
 ·
  have hO := Lib.hid (show (electO rep ep tm gone there mod live eps tmod t c r now lim) = ([], [], 1) by unfold electO; rw [q1]; simp)
  rw [q1] at n1
  have N1 := Lib.hid n1
  clear n1 q1
  go_enter Try.func25, Try.ntmps25
  go_wp2_with fail
  refine (N1.out _).mono ?_
  rintro e w1 ⟨rfl, hb1⟩
  have HK1 := Lib.hid ((hb1.block (w.heap.size) (by simp; try omega)).trans (blk_alloc (heap_alloc_new w (.cells #[.string rep, .int .i64 ep, .int .i64 tm, .bool gone, .bool there, .int .i64 mod, .int .i64 live, .int .i64 eps, .int .i64 tmod] 30)) (.cells #[.slice none 0 0, .slice none 0 0] 34)))
  have HT1 := Lib.hid ((hb1.block (w.heap.size + 1) (by simp)).trans (heap_alloc_at (w.alloc (.cells #[.string rep, .int .i64 ep, .int .i64 tm, .bool gone, .bool there, .int .i64 mod, .int .i64 live, .int .i64 eps, .int .i64 tmod] 30)) (.cells #[.slice none 0 0, .slice none 0 0] 34) (n := w.heap.size + 1) (by simp)))
  have HB1 := Lib.hid ((below_alloc (below_alloc (Below.refl w.heap.size w) (.cells #[.string rep, .int .i64 ep, .int .i64 tm, .bool gone, .bool there, .int .i64 mod, .int .i64 live, .int .i64 eps, .int .i64 tmod] 30)) (.cells #[.slice none 0 0, .slice none 0 0] 34)).trans (hb1.mono (by simp; try omega)))
  clear hb1
  have hcT0 := blk_cell HT1.out 0
  have hcT1 := blk_cell HT1.out 1
  have hlT := blk_lt HT1.out
  simp only [List.getElem?_toArray, List.getElem?_cons_zero, List.getElem?_cons_succ] at hcT0 hcT1
  have hzT0 := blk_frozen HT1.out 0
  have hzT1 := blk_frozen HT1.out 1
  go_wp2
  have hTr := blk_put (cs := #[.slice none 0 0, .slice none 0 0]) (blk_put (cs := #[.slice none 0 0, .slice none 0 0]) HT1.out 0 (.slice none 0 0) rfl) 1 (.slice none 0 0) rfl
  have hBr := (HB1.out.setCell (p := ⟨w.heap.size + 1, 0, none⟩) (by simp) (.slice none 0 0)).setCell (p := ⟨w.heap.size + 1, 1, none⟩) (by simp) (.slice none 0 0)
  refine bodyPost_ret (results_ct rfl _ _ (w.heap.size + 1) 34 #[.slice none 0 0, .slice none 0 0] (0, 0) _ rfl hTr Try.underlying34 rfl (by kernel_rfl)) rfl ?_
  rw [hO.out]
  exact ⟨_, _, rfl, Kd.R_nil _ _ _ _ _, Kd.R_nil _ _ _ _ _, hBr⟩
 by_cases q2 : lim < 1
 ·
  have hO := Lib.hid (show (electO rep ep tm gone there mod live eps tmod t c r now lim) = ([], [], 1) by unfold electO; rw [decide_eq_false (by omega : ¬ 1 ≤ lim)]; simp)
  rw [q1] at n1
  have N1 := Lib.hid n1
  clear n1 q1
  go_enter Try.func25, Try.ntmps25
  go_wp2_with fail
  refine (N1.out _).mono ?_
  rintro e w1 ⟨rfl, hb1⟩
  have HK1 := Lib.hid ((hb1.block (w.heap.size) (by simp; try omega)).trans (blk_alloc (heap_alloc_new w (.cells #[.string rep, .int .i64 ep, .int .i64 tm, .bool gone, .bool there, .int .i64 mod, .int .i64 live, .int .i64 eps, .int .i64 tmod] 30)) (.cells #[.slice none 0 0, .slice none 0 0] 34)))
  have HT1 := Lib.hid ((hb1.block (w.heap.size + 1) (by simp)).trans (heap_alloc_at (w.alloc (.cells #[.string rep, .int .i64 ep, .int .i64 tm, .bool gone, .bool there, .int .i64 mod, .int .i64 live, .int .i64 eps, .int .i64 tmod] 30)) (.cells #[.slice none 0 0, .slice none 0 0] 34) (n := w.heap.size + 1) (by simp)))
  have HB1 := Lib.hid ((below_alloc (below_alloc (Below.refl w.heap.size w) (.cells #[.string rep, .int .i64 ep, .int .i64 tm, .bool gone, .bool there, .int .i64 mod, .int .i64 live, .int .i64 eps, .int .i64 tmod] 30)) (.cells #[.slice none 0 0, .slice none 0 0] 34)).trans (hb1.mono (by simp; try omega)))
  clear hb1
  have hcT0 := blk_cell HT1.out 0
  have hcT1 := blk_cell HT1.out 1
  have hlT := blk_lt HT1.out
  simp only [List.getElem?_toArray, List.getElem?_cons_zero, List.getElem?_cons_succ] at hcT0 hcT1
  have hzT0 := blk_frozen HT1.out 0
  have hzT1 := blk_frozen HT1.out 1
  go_wp2
  have hTr := blk_put (cs := #[.slice none 0 0, .slice none 0 0]) (blk_put (cs := #[.slice none 0 0, .slice none 0 0]) HT1.out 0 (.slice none 0 0) rfl) 1 (.slice none 0 0) rfl
  have hBr := (HB1.out.setCell (p := ⟨w.heap.size + 1, 0, none⟩) (by simp) (.slice none 0 0)).setCell (p := ⟨w.heap.size + 1, 1, none⟩) (by simp) (.slice none 0 0)
  refine bodyPost_ret (results_ct rfl _ _ (w.heap.size + 1) 34 #[.slice none 0 0, .slice none 0 0] (0, 0) _ rfl hTr Try.underlying34 rfl (by kernel_rfl)) rfl ?_
  rw [hO.out]
  exact ⟨_, _, rfl, Kd.R_nil _ _ _ _ _, Kd.R_nil _ _ _ _ _, hBr⟩
 have P := Lib.hid (fun W => plan1_any rep hr ep tm gone there mod live eps tmod t c r ht hc hrr now lim q1 (by omega) W)
 rw [q1] at n1
 have N1 := Lib.hid n1
 clear n1 q1
 go_enter Try.func25, Try.ntmps25
 go_wp2_with fail
 refine (N1.out _).mono ?_
 rintro e w1 ⟨rfl, hb1⟩
 have HK1 := Lib.hid ((hb1.block (w.heap.size) (by simp; try omega)).trans (blk_alloc (heap_alloc_new w (.cells #[.string rep, .int .i64 ep, .int .i64 tm, .bool gone, .bool there, .int .i64 mod, .int .i64 live, .int .i64 eps, .int .i64 tmod] 30)) (.cells #[.slice none 0 0, .slice none 0 0] 34)))
 have HT1 := Lib.hid ((hb1.block (w.heap.size + 1) (by simp)).trans (heap_alloc_at (w.alloc (.cells #[.string rep, .int .i64 ep, .int .i64 tm, .bool gone, .bool there, .int .i64 mod, .int .i64 live, .int .i64 eps, .int .i64 tmod] 30)) (.cells #[.slice none 0 0, .slice none 0 0] 34) (n := w.heap.size + 1) (by simp)))
 have HB1 := Lib.hid ((below_alloc (below_alloc (Below.refl w.heap.size w) (.cells #[.string rep, .int .i64 ep, .int .i64 tm, .bool gone, .bool there, .int .i64 mod, .int .i64 live, .int .i64 eps, .int .i64 tmod] 30)) (.cells #[.slice none 0 0, .slice none 0 0] 34)).trans (hb1.mono (by simp; try omega)))
 clear hb1
 have hcK0 := blk_cell HK1.out 0
 have hcK1 := blk_cell HK1.out 1
 have hcK2 := blk_cell HK1.out 2
 have hcK3 := blk_cell HK1.out 3
 have hcK4 := blk_cell HK1.out 4
 have hcK5 := blk_cell HK1.out 5
 have hcK6 := blk_cell HK1.out 6
 have hcK7 := blk_cell HK1.out 7
 have hcK8 := blk_cell HK1.out 8
 have hlK := blk_lt HK1.out
 simp only [List.getElem?_toArray, List.getElem?_cons_zero, List.getElem?_cons_succ] at hcK0 hcK1 hcK2 hcK3 hcK4 hcK5 hcK6 hcK7 hcK8
 go_wp2_with fail
 refine (P.out _).mono ?_
 rintro e W ⟨v0, v1, rfl, hR0, hR1, hb⟩
 obtain ⟨A0, c0, rfl⟩ := Kd.R_slice hR0
 obtain ⟨A1, c1, rfl⟩ := Kd.R_slice hR1
 have HT9 := (hb.block _ (blk_lt HT1.out)).trans HT1.out
 have HB9 := HB1.out.trans (hb.mono HB1.out.size)
 have hsz := HB1.out.size
 clear hcK0 hcK1 hcK2 hcK3 hcK4 hcK5 hcK6 hcK7 hcK8 hlK
 have hcT0 := blk_cell HT9 0
 have hcT1 := blk_cell HT9 1
 have hzT0 := blk_frozen HT9 0
 have hzT1 := blk_frozen HT9 1
 simp only [List.getElem?_toArray, List.getElem?_cons_zero, List.getElem?_cons_succ] at hcT0 hcT1
 have hq0 : ∀ q, q ∈ 73 :: PEl.k73.E → q ≠ 34 := by decide
 have hq1 : ∀ q, q ∈ 85 :: PEl.k85.E → q ≠ 34 := by decide
 go_wp2
 have hT1 := blk_put (cs := #[.slice none 0 0, .slice none 0 0]) HT9 0 (.slice A0 (electO rep ep tm gone there mod live eps tmod t c r now lim).1.length c0) rfl
 have hTr := blk_put (cs := #[.slice A0 (electO rep ep tm gone there mod live eps tmod t c r now lim).1.length c0, .slice none 0 0]) hT1 1 (.slice A1 (electO rep ep tm gone there mod live eps tmod t c r now lim).2.1.length c1) rfl
 have hBr := (HB9.setCell (p := ⟨w.heap.size + 1, 0, none⟩) (by simp) (.slice A0 (electO rep ep tm gone there mod live eps tmod t c r now lim).1.length c0)).setCell (p := ⟨w.heap.size + 1, 1, none⟩) (by simp) (.slice A1 (electO rep ep tm gone there mod live eps tmod t c r now lim).2.1.length c1)
 refine bodyPost_ret (results_ct rfl _ _ (w.heap.size + 1) 34 #[.slice A0 (electO rep ep tm gone there mod live eps tmod t c r now lim).1.length c0, .slice A1 (electO rep ep tm gone there mod live eps tmod t c r now lim).2.1.length c1] (0, 0) _ rfl hTr Try.underlying34 rfl (by kernel_rfl)) rfl ?_
 exact ⟨_, _, rfl, Kd.R_lower (Kd.R_set (Kd.R_set hR0 HT9 hq0 0 _) hT1 hq0 1 _) hsz, Kd.R_lower (Kd.R_set (Kd.R_set hR1 HT9 hq1 0 _) hT1 hq1 1 _) hsz, hBr⟩
set_option maxHeartbeats 2000000 in
set_option maxRecDepth 100000 in
theorem renew_any (rep : ByteArray) (hr : rep.size ≤ 140737488351232) (ep tm : Int) (gone there : Bool) (mod live eps tmod : Int) (t c : ByteArray) (ht : t.size ≤ 140737488351232) (hc : c.size ≤ 140737488351232) (now : Int) (w : World) :
  Calls Try.prog 32 #[knA rep ep tm gone there mod live eps tmod, .string t, .string c, .int .i64 now] w (TxRes w (renewO rep ep tm gone there mod live eps tmod t c now).1 (renewO rep ep tm gone there mod live eps tmod t c now).2.1 (renewO rep ep tm gone there mod live eps tmod t c now).2.2) := by
 have P := Lib.hid (fun W => plan2_any rep hr ep tm gone there mod live eps tmod t c ⟨#[]⟩ ht hc now 0 W)
 go_enter Try.func32, Try.ntmps32
 go_wp2_with fail
 refine (P.out _).mono ?_
 rintro e W ⟨v0, v1, rfl, hR0, hR1, hb⟩
 obtain ⟨A0, c0, rfl⟩ := Kd.R_slice hR0
 obtain ⟨A1, c1, rfl⟩ := Kd.R_slice hR1
 have HT9 : W.heap[w.heap.size + 1]? = some (.cells #[.slice none 0 0, .slice none 0 0] 34 (0, 0)) := (hb.block (w.heap.size + 1) (by simp)).trans (heap_alloc_at (w.alloc (.cells #[.string rep, .int .i64 ep, .int .i64 tm, .bool gone, .bool there, .int .i64 mod, .int .i64 live, .int .i64 eps, .int .i64 tmod] 30)) (.cells #[.slice none 0 0, .slice none 0 0] 34) (n := w.heap.size + 1) (by simp))
 have HB9 : Below w.heap.size w W := (below_alloc (below_alloc (Below.refl w.heap.size w) _) _).trans (hb.mono (by simp; omega))
 have hsz : w.heap.size ≤ ((w.alloc (.cells #[.string rep, .int .i64 ep, .int .i64 tm, .bool gone, .bool there, .int .i64 mod, .int .i64 live, .int .i64 eps, .int .i64 tmod] 30)).alloc (.cells #[.slice none 0 0, .slice none 0 0] 34)).heap.size := by simp; omega
 have hcT0 := blk_cell HT9 0
 have hcT1 := blk_cell HT9 1
 have hzT0 := blk_frozen HT9 0
 have hzT1 := blk_frozen HT9 1
 simp only [List.getElem?_toArray, List.getElem?_cons_zero, List.getElem?_cons_succ] at hcT0 hcT1
 have hq0 : ∀ q, q ∈ 73 :: PEl.k73.E → q ≠ 34 := by decide
 have hq1 : ∀ q, q ∈ 85 :: PEl.k85.E → q ≠ 34 := by decide
 go_wp2
 have hT1 := blk_put (cs := #[.slice none 0 0, .slice none 0 0]) HT9 0 (.slice A0 (renewO rep ep tm gone there mod live eps tmod t c now).1.length c0) rfl
 have hTr := blk_put (cs := #[.slice A0 (renewO rep ep tm gone there mod live eps tmod t c now).1.length c0, .slice none 0 0]) hT1 1 (.slice A1 (renewO rep ep tm gone there mod live eps tmod t c now).2.1.length c1) rfl
 have hBr := (HB9.setCell (p := ⟨w.heap.size + 1, 0, none⟩) (by simp) (.slice A0 (renewO rep ep tm gone there mod live eps tmod t c now).1.length c0)).setCell (p := ⟨w.heap.size + 1, 1, none⟩) (by simp) (.slice A1 (renewO rep ep tm gone there mod live eps tmod t c now).2.1.length c1)
 refine bodyPost_ret (results_ct rfl _ _ (w.heap.size + 1) 34 #[.slice A0 (renewO rep ep tm gone there mod live eps tmod t c now).1.length c0, .slice A1 (renewO rep ep tm gone there mod live eps tmod t c now).2.1.length c1] (0, 0) _ rfl hTr Try.underlying34 rfl (by kernel_rfl)) rfl ?_
 exact ⟨_, _, rfl, Kd.R_lower (Kd.R_set (Kd.R_set hR0 HT9 hq0 0 _) hT1 hq0 1 _) hsz, Kd.R_lower (Kd.R_set (Kd.R_set hR1 HT9 hq1 0 _) hT1 hq1 1 _) hsz, hBr⟩
set_option maxHeartbeats 2000000 in
set_option maxRecDepth 100000 in
theorem bury_any (rep : ByteArray) (hr : rep.size ≤ 140737488351232) (ep tm : Int) (gone there : Bool) (mod live eps tmod : Int) (t c : ByteArray) (ht : t.size ≤ 140737488351232) (hc : c.size ≤ 140737488351232) (now : Int) (w : World) :
  Calls Try.prog 34 #[knA rep ep tm gone there mod live eps tmod, .string t, .string c, .int .i64 now] w (TxRes w (buryO rep ep tm gone there mod live eps tmod t c now).1 (buryO rep ep tm gone there mod live eps tmod t c now).2.1 (buryO rep ep tm gone there mod live eps tmod t c now).2.2) := by
 have P := Lib.hid (fun W => plan3_any rep hr ep tm gone there mod live eps tmod t c ⟨#[]⟩ ht hc now 0 W)
 go_enter Try.func34, Try.ntmps34
 go_wp2_with fail
 refine (P.out _).mono ?_
 rintro e W ⟨v0, v1, rfl, hR0, hR1, hb⟩
 obtain ⟨A0, c0, rfl⟩ := Kd.R_slice hR0
 obtain ⟨A1, c1, rfl⟩ := Kd.R_slice hR1
 have HT9 : W.heap[w.heap.size + 1]? = some (.cells #[.slice none 0 0, .slice none 0 0] 34 (0, 0)) := (hb.block (w.heap.size + 1) (by simp)).trans (heap_alloc_at (w.alloc (.cells #[.string rep, .int .i64 ep, .int .i64 tm, .bool gone, .bool there, .int .i64 mod, .int .i64 live, .int .i64 eps, .int .i64 tmod] 30)) (.cells #[.slice none 0 0, .slice none 0 0] 34) (n := w.heap.size + 1) (by simp))
 have HB9 : Below w.heap.size w W := (below_alloc (below_alloc (Below.refl w.heap.size w) _) _).trans (hb.mono (by simp; omega))
 have hsz : w.heap.size ≤ ((w.alloc (.cells #[.string rep, .int .i64 ep, .int .i64 tm, .bool gone, .bool there, .int .i64 mod, .int .i64 live, .int .i64 eps, .int .i64 tmod] 30)).alloc (.cells #[.slice none 0 0, .slice none 0 0] 34)).heap.size := by simp; omega
 have hcT0 := blk_cell HT9 0
 have hcT1 := blk_cell HT9 1
 have hzT0 := blk_frozen HT9 0
 have hzT1 := blk_frozen HT9 1
 simp only [List.getElem?_toArray, List.getElem?_cons_zero, List.getElem?_cons_succ] at hcT0 hcT1
 have hq0 : ∀ q, q ∈ 73 :: PEl.k73.E → q ≠ 34 := by decide
 have hq1 : ∀ q, q ∈ 85 :: PEl.k85.E → q ≠ 34 := by decide
 go_wp2
 have hT1 := blk_put (cs := #[.slice none 0 0, .slice none 0 0]) HT9 0 (.slice A0 (buryO rep ep tm gone there mod live eps tmod t c now).1.length c0) rfl
 have hTr := blk_put (cs := #[.slice A0 (buryO rep ep tm gone there mod live eps tmod t c now).1.length c0, .slice none 0 0]) hT1 1 (.slice A1 (buryO rep ep tm gone there mod live eps tmod t c now).2.1.length c1) rfl
 have hBr := (HB9.setCell (p := ⟨w.heap.size + 1, 0, none⟩) (by simp) (.slice A0 (buryO rep ep tm gone there mod live eps tmod t c now).1.length c0)).setCell (p := ⟨w.heap.size + 1, 1, none⟩) (by simp) (.slice A1 (buryO rep ep tm gone there mod live eps tmod t c now).2.1.length c1)
 refine bodyPost_ret (results_ct rfl _ _ (w.heap.size + 1) 34 #[.slice A0 (buryO rep ep tm gone there mod live eps tmod t c now).1.length c0, .slice A1 (buryO rep ep tm gone there mod live eps tmod t c now).2.1.length c1] (0, 0) _ rfl hTr Try.underlying34 rfl (by kernel_rfl)) rfl ?_
 exact ⟨_, _, rfl, Kd.R_lower (Kd.R_set (Kd.R_set hR0 HT9 hq0 0 _) hT1 hq0 1 _) hsz, Kd.R_lower (Kd.R_set (Kd.R_set hR1 HT9 hq1 0 _) hT1 hq1 1 _) hsz, hBr⟩
set_option maxHeartbeats 2000000 in
set_option maxRecDepth 100000 in
theorem sweep_any (rep : ByteArray) (hr : rep.size ≤ 140737488351232) (ep tm : Int) (gone there : Bool) (mod live eps tmod : Int) (t c : ByteArray) (ht : t.size ≤ 140737488351232) (hc : c.size ≤ 140737488351232) (w : World) :
  Calls Try.prog 36 #[knA rep ep tm gone there mod live eps tmod, .string t, .string c] w (TxRes w (sweepO rep ep tm gone there mod live eps tmod t c).1 (sweepO rep ep tm gone there mod live eps tmod t c).2.1 (sweepO rep ep tm gone there mod live eps tmod t c).2.2) := by
 have P := Lib.hid (fun W => plan4_any rep hr ep tm gone there mod live eps tmod t c ⟨#[]⟩ ht hc 0 0 W)
 go_enter Try.func36, Try.ntmps36
 go_wp2_with fail
 refine (P.out _).mono ?_
 rintro e W ⟨v0, v1, rfl, hR0, hR1, hb⟩
 obtain ⟨A0, c0, rfl⟩ := Kd.R_slice hR0
 obtain ⟨A1, c1, rfl⟩ := Kd.R_slice hR1
 have HT9 : W.heap[w.heap.size + 1]? = some (.cells #[.slice none 0 0, .slice none 0 0] 34 (0, 0)) := (hb.block (w.heap.size + 1) (by simp)).trans (heap_alloc_at (w.alloc (.cells #[.string rep, .int .i64 ep, .int .i64 tm, .bool gone, .bool there, .int .i64 mod, .int .i64 live, .int .i64 eps, .int .i64 tmod] 30)) (.cells #[.slice none 0 0, .slice none 0 0] 34) (n := w.heap.size + 1) (by simp))
 have HB9 : Below w.heap.size w W := (below_alloc (below_alloc (Below.refl w.heap.size w) _) _).trans (hb.mono (by simp; omega))
 have hsz : w.heap.size ≤ ((w.alloc (.cells #[.string rep, .int .i64 ep, .int .i64 tm, .bool gone, .bool there, .int .i64 mod, .int .i64 live, .int .i64 eps, .int .i64 tmod] 30)).alloc (.cells #[.slice none 0 0, .slice none 0 0] 34)).heap.size := by simp; omega
 have hcT0 := blk_cell HT9 0
 have hcT1 := blk_cell HT9 1
 have hzT0 := blk_frozen HT9 0
 have hzT1 := blk_frozen HT9 1
 simp only [List.getElem?_toArray, List.getElem?_cons_zero, List.getElem?_cons_succ] at hcT0 hcT1
 have hq0 : ∀ q, q ∈ 73 :: PEl.k73.E → q ≠ 34 := by decide
 have hq1 : ∀ q, q ∈ 85 :: PEl.k85.E → q ≠ 34 := by decide
 go_wp2
 have hT1 := blk_put (cs := #[.slice none 0 0, .slice none 0 0]) HT9 0 (.slice A0 (sweepO rep ep tm gone there mod live eps tmod t c).1.length c0) rfl
 have hTr := blk_put (cs := #[.slice A0 (sweepO rep ep tm gone there mod live eps tmod t c).1.length c0, .slice none 0 0]) hT1 1 (.slice A1 (sweepO rep ep tm gone there mod live eps tmod t c).2.1.length c1) rfl
 have hBr := (HB9.setCell (p := ⟨w.heap.size + 1, 0, none⟩) (by simp) (.slice A0 (sweepO rep ep tm gone there mod live eps tmod t c).1.length c0)).setCell (p := ⟨w.heap.size + 1, 1, none⟩) (by simp) (.slice A1 (sweepO rep ep tm gone there mod live eps tmod t c).2.1.length c1)
 refine bodyPost_ret (results_ct rfl _ _ (w.heap.size + 1) 34 #[.slice A0 (sweepO rep ep tm gone there mod live eps tmod t c).1.length c0, .slice A1 (sweepO rep ep tm gone there mod live eps tmod t c).2.1.length c1] (0, 0) _ rfl hTr Try.underlying34 rfl (by kernel_rfl)) rfl ?_
 exact ⟨_, _, rfl, Kd.R_lower (Kd.R_set (Kd.R_set hR0 HT9 hq0 0 _) hT1 hq0 1 _) hsz, Kd.R_lower (Kd.R_set (Kd.R_set hR1 HT9 hq1 0 _) hT1 hq1 1 _) hsz, hBr⟩
end Go.Proofs.Ytobanhbjkomieaa.RP
