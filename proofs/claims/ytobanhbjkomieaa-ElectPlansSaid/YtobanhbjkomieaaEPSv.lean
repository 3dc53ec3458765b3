import Derived.Test.YtobanhbjkomieaaEMSv
import Derived.Test.YtobanhbjkomieaaPElx9Sv
import Derived.Lib.Hide
namespace Go.Proofs.Ytobanhbjkomieaa.RP
open Go.RowKit Go.Proofs.Ytobanhbjkomieaa.PAll Go.Proofs.Ytobanhbjkomieaa.KP Go.Proofs.Ytobanhbjkomieaa.BP Go.Proofs.YtobanhbjkomieaaW.PrintWords Go.Proofs.YtobanhbjkomieaaW.PrintLast Go.Proofs.YtobanhbjkomieaaW.PrintMore
set_option linter.unusedSimpArgs false
set_option linter.unusedVariables false
abbrev knA (rep : ByteArray) (ep tm : Int) (gone there : Bool) (mod live eps tmod : Int) : Value := .agg #[.string rep, .int .i64 ep, .int .i64 tm, .bool gone, .bool there, .int .i64 mod, .int .i64 live, .int .i64 eps, .int .i64 tmod]
abbrev wiA (t c r : ByteArray) (now lim : Int) : Value := .agg #[.string t, .string c, .string r, .int .i64 now, .int .i64 lim]
def staleE (gone there : Bool) (tm now : Int) : Int := if (there && !gone) = true then (if now ≤ tm then 46 else 0) else 46
theorem stale_any (rep : ByteArray) (ep tm : Int) (gone there : Bool) (mod live eps tmod : Int) (t c r : ByteArray) (now lim : Int) (w : World) :
  Calls Try.prog 196 #[knA rep ep tm gone there mod live eps tmod, wiA t c r now lim] w fun e w' => e = .returned (.int .i64 (staleE gone there tm now)) ∧ Below w.heap.size w w' := by
 apply PEl.elect_stale.calls
 unfold PEl.elect_stale.f PEl.elect_Known_Live.f staleE
 cases there <;> cases gone <;> simp
 split <;> rfl
theorem klive_any (rep : ByteArray) (ep tm : Int) (gone there : Bool) (mod live eps tmod : Int) (w : World) :
  Calls Try.prog 30 #[knA rep ep tm gone there mod live eps tmod] w fun e w' => e = .returned (.bool (there && !gone)) ∧ Below w.heap.size w w' := by
 apply PEl.elect_Known_Live.calls
 unfold PEl.elect_Known_Live.f
 cases there <;> cases gone <;> simp
set_option maxHeartbeats 2000000 in
set_option maxRecDepth 100000 in
theorem elected_any (rep : ByteArray) (ep tm : Int) (gone there : Bool) (mod live eps tmod : Int) (t c r : ByteArray) (now lim : Int) (w : World) (h1 : 0 ≤ live ∧ live ≤ 1048576) (h2 : 0 ≤ eps ∧ eps ≤ 1099511627776) :
  Calls Try.prog 195 #[knA rep ep tm gone there mod live eps tmod, wiA t c r now lim] w fun e w' => e = .returned (knA r (eps + 1) now false true mod (if (there && !gone) = true then live else live + 1) (eps + 1) tmod) ∧ Below w.heap.size w w' := by
 have H := Lib.hid (fun W => klive_any rep ep tm gone there mod live eps tmod W)
 have hw1 : wrap64 (live + 1) = live + 1 := by unfold wrap64; omega
 have hw2 : wrap64 (eps + 1) = eps + 1 := by unfold wrap64; omega
 cases hl : (there && !gone)
 all_goals rw [hl] at H
 all_goals clear hl
 ·
  go_enter Try.func195, Try.ntmps195
  go_wp2_with fail
  refine (H.out _).mono ?_
  rintro e w1 ⟨rfl, hb1⟩
  have HK1 := Lib.hid ((hb1.block (w.heap.size) (by simp; try omega)).trans (blk_alloc (blk_alloc (heap_alloc_new w (.cells #[.string rep, .int .i64 ep, .int .i64 tm, .bool gone, .bool there, .int .i64 mod, .int .i64 live, .int .i64 eps, .int .i64 tmod] 30)) (.cells #[.string t, .string c, .string r, .int .i64 now, .int .i64 lim] 156)) (.cells #[.string ⟨#[]⟩, .int .i64 0, .int .i64 0, .bool false, .bool false, .int .i64 0, .int .i64 0, .int .i64 0, .int .i64 0] 30)))
  have HS1 := Lib.hid ((hb1.block (w.heap.size + 1) (by simp; try omega)).trans (blk_alloc (heap_alloc_at (w.alloc (.cells #[.string rep, .int .i64 ep, .int .i64 tm, .bool gone, .bool there, .int .i64 mod, .int .i64 live, .int .i64 eps, .int .i64 tmod] 30)) (.cells #[.string t, .string c, .string r, .int .i64 now, .int .i64 lim] 156) (n := w.heap.size + 1) (by simp)) (.cells #[.string ⟨#[]⟩, .int .i64 0, .int .i64 0, .bool false, .bool false, .int .i64 0, .int .i64 0, .int .i64 0, .int .i64 0] 30)))
  have HR1 := Lib.hid ((hb1.block (w.heap.size + 2) (by simp)).trans (heap_alloc_at ((w.alloc (.cells #[.string rep, .int .i64 ep, .int .i64 tm, .bool gone, .bool there, .int .i64 mod, .int .i64 live, .int .i64 eps, .int .i64 tmod] 30)).alloc (.cells #[.string t, .string c, .string r, .int .i64 now, .int .i64 lim] 156)) (.cells #[.string ⟨#[]⟩, .int .i64 0, .int .i64 0, .bool false, .bool false, .int .i64 0, .int .i64 0, .int .i64 0, .int .i64 0] 30) (n := w.heap.size + 2) (by simp)))
  have HB1 := Lib.hid ((below_alloc (below_alloc (below_alloc (Below.refl w.heap.size w) (.cells #[.string rep, .int .i64 ep, .int .i64 tm, .bool gone, .bool there, .int .i64 mod, .int .i64 live, .int .i64 eps, .int .i64 tmod] 30)) (.cells #[.string t, .string c, .string r, .int .i64 now, .int .i64 lim] 156)) (.cells #[.string ⟨#[]⟩, .int .i64 0, .int .i64 0, .bool false, .bool false, .int .i64 0, .int .i64 0, .int .i64 0, .int .i64 0] 30)).trans (hb1.mono (by simp; try omega)))
  clear hb1
  have hcK0 := blk_cell HK1.out 0
  have hcK1 := blk_cell HK1.out 1
  have hcK2 := blk_cell HK1.out 2
  have hcK3 := blk_cell HK1.out 3
  have hcK4 := blk_cell HK1.out 4
  have hcK5 := blk_cell HK1.out 5
  have hcK6 := blk_cell HK1.out 6
  have hcK7 := blk_cell HK1.out 7
  have hcK8 := blk_cell HK1.out 8
  have hlK := blk_lt HK1.out
  have hcS0 := blk_cell HS1.out 0
  have hcS1 := blk_cell HS1.out 1
  have hcS2 := blk_cell HS1.out 2
  have hcS3 := blk_cell HS1.out 3
  have hcS4 := blk_cell HS1.out 4
  have hlS := blk_lt HS1.out
  have hcR0 := blk_cell HR1.out 0
  have hcR1 := blk_cell HR1.out 1
  have hcR2 := blk_cell HR1.out 2
  have hcR3 := blk_cell HR1.out 3
  have hcR4 := blk_cell HR1.out 4
  have hcR5 := blk_cell HR1.out 5
  have hcR6 := blk_cell HR1.out 6
  have hcR7 := blk_cell HR1.out 7
  have hcR8 := blk_cell HR1.out 8
  have hlR := blk_lt HR1.out
  simp only [List.getElem?_toArray, List.getElem?_cons_zero, List.getElem?_cons_succ] at hcK0 hcK1 hcK2 hcK3 hcK4 hcK5 hcK6 hcK7 hcK8 hcS0 hcS1 hcS2 hcS3 hcS4 hcR0 hcR1 hcR2 hcR3 hcR4 hcR5 hcR6 hcR7 hcR8
  have hzK0 := blk_frozen HK1.out 0
  have hzK1 := blk_frozen HK1.out 1
  have hzK2 := blk_frozen HK1.out 2
  have hzK3 := blk_frozen HK1.out 3
  have hzK4 := blk_frozen HK1.out 4
  have hzK5 := blk_frozen HK1.out 5
  have hzK6 := blk_frozen HK1.out 6
  have hzK7 := blk_frozen HK1.out 7
  have hzK8 := blk_frozen HK1.out 8
  have hzR0 := blk_frozen HR1.out 0
  have hzR1 := blk_frozen HR1.out 1
  have hzR2 := blk_frozen HR1.out 2
  have hzR3 := blk_frozen HR1.out 3
  have hzR4 := blk_frozen HR1.out 4
  have hzR5 := blk_frozen HR1.out 5
  have hzR6 := blk_frozen HR1.out 6
  have hzR7 := blk_frozen HR1.out 7
  have hzR8 := blk_frozen HR1.out 8
  go_wp2_with fail
  go_region
  have HK2 := Lib.hid (show _ = some (.cells #[.string r, .int .i64 (eps + 1), .int .i64 now, .bool false, .bool true, .int .i64 mod, .int .i64 (live + 1), .int .i64 (eps + 1), .int .i64 tmod] 30 (0, 0)) from blk_drew (blk_put (cs := #[.string r, .int .i64 (eps + 1), .int .i64 now, .bool gone, .bool true, .int .i64 mod, .int .i64 (live + 1), .int .i64 (eps + 1), .int .i64 tmod]) (blk_put (cs := #[.string r, .int .i64 (eps + 1), .int .i64 tm, .bool gone, .bool true, .int .i64 mod, .int .i64 (live + 1), .int .i64 (eps + 1), .int .i64 tmod]) (blk_put (cs := #[.string r, .int .i64 ep, .int .i64 tm, .bool gone, .bool true, .int .i64 mod, .int .i64 (live + 1), .int .i64 (eps + 1), .int .i64 tmod]) (blk_put (cs := #[.string rep, .int .i64 ep, .int .i64 tm, .bool gone, .bool true, .int .i64 mod, .int .i64 (live + 1), .int .i64 (eps + 1), .int .i64 tmod]) (blk_put (cs := #[.string rep, .int .i64 ep, .int .i64 tm, .bool gone, .bool there, .int .i64 mod, .int .i64 (live + 1), .int .i64 (eps + 1), .int .i64 tmod]) (blk_put (cs := #[.string rep, .int .i64 ep, .int .i64 tm, .bool gone, .bool there, .int .i64 mod, .int .i64 (live + 1), .int .i64 eps, .int .i64 tmod]) (blk_put (cs := #[.string rep, .int .i64 ep, .int .i64 tm, .bool gone, .bool there, .int .i64 mod, .int .i64 live, .int .i64 eps, .int .i64 tmod]) (HK1.out) 6 (.int .i64 (live + 1)) rfl) 7 (.int .i64 (eps + 1)) rfl) 4 (.bool true) rfl) 0 (.string r) rfl) 1 (.int .i64 (eps + 1)) rfl) 2 (.int .i64 now) rfl) 3 (.bool false) rfl))
  have hne : w.heap.size + 2 ≠ w.heap.size := by omega
  have HR2 := Lib.hid (show _ = some (.cells #[.string ⟨#[]⟩, .int .i64 0, .int .i64 0, .bool false, .bool false, .int .i64 0, .int .i64 0, .int .i64 0, .int .i64 0] 30 (0, 0)) from blk_drew (blk_far (p := ⟨w.heap.size, 3, none⟩) (blk_far (p := ⟨w.heap.size, 2, none⟩) (blk_far (p := ⟨w.heap.size, 1, none⟩) (blk_far (p := ⟨w.heap.size, 0, none⟩) (blk_far (p := ⟨w.heap.size, 4, none⟩) (blk_far (p := ⟨w.heap.size, 7, none⟩) (blk_far (p := ⟨w.heap.size, 6, none⟩) (HR1.out) hne (.int .i64 (live + 1))) hne (.int .i64 (eps + 1))) hne (.bool true)) hne (.string r)) hne (.int .i64 (eps + 1))) hne (.int .i64 now)) hne (.bool false)))
  have HB2 := Lib.hid (below_drew (((((((HB1.out.setCell (p := ⟨w.heap.size, 6, none⟩) (Nat.le_refl _) (.int .i64 (live + 1))).setCell (p := ⟨w.heap.size, 7, none⟩) (Nat.le_refl _) (.int .i64 (eps + 1))).setCell (p := ⟨w.heap.size, 4, none⟩) (Nat.le_refl _) (.bool true)).setCell (p := ⟨w.heap.size, 0, none⟩) (Nat.le_refl _) (.string r)).setCell (p := ⟨w.heap.size, 1, none⟩) (Nat.le_refl _) (.int .i64 (eps + 1))).setCell (p := ⟨w.heap.size, 2, none⟩) (Nat.le_refl _) (.int .i64 now)).setCell (p := ⟨w.heap.size, 3, none⟩) (Nat.le_refl _) (.bool false)))
  generalize (((((((w1.setCell ⟨w.heap.size, 6, none⟩ (.int .i64 (live + 1))).setCell ⟨w.heap.size, 7, none⟩ (.int .i64 (eps + 1))).setCell ⟨w.heap.size, 4, none⟩ (.bool true)).setCell ⟨w.heap.size, 0, none⟩ (.string r)).setCell ⟨w.heap.size, 1, none⟩ (.int .i64 (eps + 1))).setCell ⟨w.heap.size, 2, none⟩ (.int .i64 now)).setCell ⟨w.heap.size, 3, none⟩ (.bool false)).drew = W at *
  have qK0 := blk_cell HK2.out 0
  have zK0 := blk_frozen HK2.out 0
  have qK1 := blk_cell HK2.out 1
  have zK1 := blk_frozen HK2.out 1
  have qK2 := blk_cell HK2.out 2
  have zK2 := blk_frozen HK2.out 2
  have qK3 := blk_cell HK2.out 3
  have zK3 := blk_frozen HK2.out 3
  have qK4 := blk_cell HK2.out 4
  have zK4 := blk_frozen HK2.out 4
  have qK5 := blk_cell HK2.out 5
  have zK5 := blk_frozen HK2.out 5
  have qK6 := blk_cell HK2.out 6
  have zK6 := blk_frozen HK2.out 6
  have qK7 := blk_cell HK2.out 7
  have zK7 := blk_frozen HK2.out 7
  have qK8 := blk_cell HK2.out 8
  have zK8 := blk_frozen HK2.out 8
  have qR0 := blk_cell HR2.out 0
  have zR0 := blk_frozen HR2.out 0
  have qR1 := blk_cell HR2.out 1
  have zR1 := blk_frozen HR2.out 1
  have qR2 := blk_cell HR2.out 2
  have zR2 := blk_frozen HR2.out 2
  have qR3 := blk_cell HR2.out 3
  have zR3 := blk_frozen HR2.out 3
  have qR4 := blk_cell HR2.out 4
  have zR4 := blk_frozen HR2.out 4
  have qR5 := blk_cell HR2.out 5
  have zR5 := blk_frozen HR2.out 5
  have qR6 := blk_cell HR2.out 6
  have zR6 := blk_frozen HR2.out 6
  have qR7 := blk_cell HR2.out 7
  have zR7 := blk_frozen HR2.out 7
  have qR8 := blk_cell HR2.out 8
  have zR8 := blk_frozen HR2.out 8
  simp only [List.getElem?_toArray, List.getElem?_cons_zero, List.getElem?_cons_succ] at qK0 qK1 qK2 qK3 qK4 qK5 qK6 qK7 qK8 qR0 qR1 qR2 qR3 qR4 qR5 qR6 qR7 qR8
  clear hcK0 hcR0 hzK0 hzR0 hcK1 hcR1 hzK1 hzR1 hcK2 hcR2 hzK2 hzR2 hcK3 hcR3 hzK3 hzR3 hcK4 hcR4 hzK4 hzR4 hcK5 hcR5 hzK5 hzR5 hcK6 hcR6 hzK6 hzR6 hcK7 hcR7 hzK7 hzR7 hcK8 hcR8 hzK8 hzR8 hcS0 hcS1 hcS2 hcS3 hcS4
  go_wp2
  refine bodyPost_ret (results_cell_row rfl _ _ (w.heap.size + 1 + 1) 30 #[.string r, .int .i64 (eps + 1), .int .i64 now, .bool false, .bool true, .int .i64 mod, .int .i64 (live + 1), .int .i64 (eps + 1), .int .i64 tmod] (0, 0) _ rfl (blk_put (cs := #[.string r, .int .i64 (eps + 1), .int .i64 now, .bool false, .bool true, .int .i64 mod, .int .i64 (live + 1), .int .i64 (eps + 1), .int .i64 0]) (blk_put (cs := #[.string r, .int .i64 (eps + 1), .int .i64 now, .bool false, .bool true, .int .i64 mod, .int .i64 (live + 1), .int .i64 0, .int .i64 0]) (blk_put (cs := #[.string r, .int .i64 (eps + 1), .int .i64 now, .bool false, .bool true, .int .i64 mod, .int .i64 0, .int .i64 0, .int .i64 0]) (blk_put (cs := #[.string r, .int .i64 (eps + 1), .int .i64 now, .bool false, .bool true, .int .i64 0, .int .i64 0, .int .i64 0, .int .i64 0]) (blk_put (cs := #[.string r, .int .i64 (eps + 1), .int .i64 now, .bool false, .bool false, .int .i64 0, .int .i64 0, .int .i64 0, .int .i64 0]) (blk_put (cs := #[.string r, .int .i64 (eps + 1), .int .i64 now, .bool false, .bool false, .int .i64 0, .int .i64 0, .int .i64 0, .int .i64 0]) (blk_put (cs := #[.string r, .int .i64 (eps + 1), .int .i64 0, .bool false, .bool false, .int .i64 0, .int .i64 0, .int .i64 0, .int .i64 0]) (blk_put (cs := #[.string r, .int .i64 0, .int .i64 0, .bool false, .bool false, .int .i64 0, .int .i64 0, .int .i64 0, .int .i64 0]) (blk_put (cs := #[.string ⟨#[]⟩, .int .i64 0, .int .i64 0, .bool false, .bool false, .int .i64 0, .int .i64 0, .int .i64 0, .int .i64 0]) (HR2.out) 0 (.string r) rfl) 1 (.int .i64 (eps + 1)) rfl) 2 (.int .i64 now) rfl) 3 (.bool false) rfl) 4 (.bool true) rfl) 5 (.int .i64 mod) rfl) 6 (.int .i64 (live + 1)) rfl) 7 (.int .i64 (eps + 1)) rfl) 8 (.int .i64 tmod) rfl) Try.underlying30 rfl (by kernel_rfl)) rfl ?_
  exact ⟨by first | rfl | (simp; done), (((((((((HB2.out.setCell (p := ⟨w.heap.size + 1 + 1, 0, none⟩) (by show _ ≤ w.heap.size + 1 + 1; omega) (.string r)).setCell (p := ⟨w.heap.size + 1 + 1, 1, none⟩) (by show _ ≤ w.heap.size + 1 + 1; omega) (.int .i64 (eps + 1))).setCell (p := ⟨w.heap.size + 1 + 1, 2, none⟩) (by show _ ≤ w.heap.size + 1 + 1; omega) (.int .i64 now)).setCell (p := ⟨w.heap.size + 1 + 1, 3, none⟩) (by show _ ≤ w.heap.size + 1 + 1; omega) (.bool false)).setCell (p := ⟨w.heap.size + 1 + 1, 4, none⟩) (by show _ ≤ w.heap.size + 1 + 1; omega) (.bool true)).setCell (p := ⟨w.heap.size + 1 + 1, 5, none⟩) (by show _ ≤ w.heap.size + 1 + 1; omega) (.int .i64 mod)).setCell (p := ⟨w.heap.size + 1 + 1, 6, none⟩) (by show _ ≤ w.heap.size + 1 + 1; omega) (.int .i64 (live + 1))).setCell (p := ⟨w.heap.size + 1 + 1, 7, none⟩) (by show _ ≤ w.heap.size + 1 + 1; omega) (.int .i64 (eps + 1))).setCell (p := ⟨w.heap.size + 1 + 1, 8, none⟩) (by show _ ≤ w.heap.size + 1 + 1; omega) (.int .i64 tmod))⟩
 ·
  go_enter Try.func195, Try.ntmps195
  go_wp2_with fail
  refine (H.out _).mono ?_
  rintro e w1 ⟨rfl, hb1⟩
  have HK1 := Lib.hid ((hb1.block (w.heap.size) (by simp; try omega)).trans (blk_alloc (blk_alloc (heap_alloc_new w (.cells #[.string rep, .int .i64 ep, .int .i64 tm, .bool gone, .bool there, .int .i64 mod, .int .i64 live, .int .i64 eps, .int .i64 tmod] 30)) (.cells #[.string t, .string c, .string r, .int .i64 now, .int .i64 lim] 156)) (.cells #[.string ⟨#[]⟩, .int .i64 0, .int .i64 0, .bool false, .bool false, .int .i64 0, .int .i64 0, .int .i64 0, .int .i64 0] 30)))
  have HS1 := Lib.hid ((hb1.block (w.heap.size + 1) (by simp; try omega)).trans (blk_alloc (heap_alloc_at (w.alloc (.cells #[.string rep, .int .i64 ep, .int .i64 tm, .bool gone, .bool there, .int .i64 mod, .int .i64 live, .int .i64 eps, .int .i64 tmod] 30)) (.cells #[.string t, .string c, .string r, .int .i64 now, .int .i64 lim] 156) (n := w.heap.size + 1) (by simp)) (.cells #[.string ⟨#[]⟩, .int .i64 0, .int .i64 0, .bool false, .bool false, .int .i64 0, .int .i64 0, .int .i64 0, .int .i64 0] 30)))
  have HR1 := Lib.hid ((hb1.block (w.heap.size + 2) (by simp)).trans (heap_alloc_at ((w.alloc (.cells #[.string rep, .int .i64 ep, .int .i64 tm, .bool gone, .bool there, .int .i64 mod, .int .i64 live, .int .i64 eps, .int .i64 tmod] 30)).alloc (.cells #[.string t, .string c, .string r, .int .i64 now, .int .i64 lim] 156)) (.cells #[.string ⟨#[]⟩, .int .i64 0, .int .i64 0, .bool false, .bool false, .int .i64 0, .int .i64 0, .int .i64 0, .int .i64 0] 30) (n := w.heap.size + 2) (by simp)))
  have HB1 := Lib.hid ((below_alloc (below_alloc (below_alloc (Below.refl w.heap.size w) (.cells #[.string rep, .int .i64 ep, .int .i64 tm, .bool gone, .bool there, .int .i64 mod, .int .i64 live, .int .i64 eps, .int .i64 tmod] 30)) (.cells #[.string t, .string c, .string r, .int .i64 now, .int .i64 lim] 156)) (.cells #[.string ⟨#[]⟩, .int .i64 0, .int .i64 0, .bool false, .bool false, .int .i64 0, .int .i64 0, .int .i64 0, .int .i64 0] 30)).trans (hb1.mono (by simp; try omega)))
  clear hb1
  have hcK0 := blk_cell HK1.out 0
  have hcK1 := blk_cell HK1.out 1
  have hcK2 := blk_cell HK1.out 2
  have hcK3 := blk_cell HK1.out 3
  have hcK4 := blk_cell HK1.out 4
  have hcK5 := blk_cell HK1.out 5
  have hcK6 := blk_cell HK1.out 6
  have hcK7 := blk_cell HK1.out 7
  have hcK8 := blk_cell HK1.out 8
  have hlK := blk_lt HK1.out
  have hcS0 := blk_cell HS1.out 0
  have hcS1 := blk_cell HS1.out 1
  have hcS2 := blk_cell HS1.out 2
  have hcS3 := blk_cell HS1.out 3
  have hcS4 := blk_cell HS1.out 4
  have hlS := blk_lt HS1.out
  have hcR0 := blk_cell HR1.out 0
  have hcR1 := blk_cell HR1.out 1
  have hcR2 := blk_cell HR1.out 2
  have hcR3 := blk_cell HR1.out 3
  have hcR4 := blk_cell HR1.out 4
  have hcR5 := blk_cell HR1.out 5
  have hcR6 := blk_cell HR1.out 6
  have hcR7 := blk_cell HR1.out 7
  have hcR8 := blk_cell HR1.out 8
  have hlR := blk_lt HR1.out
  simp only [List.getElem?_toArray, List.getElem?_cons_zero, List.getElem?_cons_succ] at hcK0 hcK1 hcK2 hcK3 hcK4 hcK5 hcK6 hcK7 hcK8 hcS0 hcS1 hcS2 hcS3 hcS4 hcR0 hcR1 hcR2 hcR3 hcR4 hcR5 hcR6 hcR7 hcR8
  have hzK0 := blk_frozen HK1.out 0
  have hzK1 := blk_frozen HK1.out 1
  have hzK2 := blk_frozen HK1.out 2
  have hzK3 := blk_frozen HK1.out 3
  have hzK4 := blk_frozen HK1.out 4
  have hzK5 := blk_frozen HK1.out 5
  have hzK6 := blk_frozen HK1.out 6
  have hzK7 := blk_frozen HK1.out 7
  have hzK8 := blk_frozen HK1.out 8
  have hzR0 := blk_frozen HR1.out 0
  have hzR1 := blk_frozen HR1.out 1
  have hzR2 := blk_frozen HR1.out 2
  have hzR3 := blk_frozen HR1.out 3
  have hzR4 := blk_frozen HR1.out 4
  have hzR5 := blk_frozen HR1.out 5
  have hzR6 := blk_frozen HR1.out 6
  have hzR7 := blk_frozen HR1.out 7
  have hzR8 := blk_frozen HR1.out 8
  go_wp2_with fail
  go_region
  have HK2 := Lib.hid (show _ = some (.cells #[.string r, .int .i64 (eps + 1), .int .i64 now, .bool false, .bool true, .int .i64 mod, .int .i64 live, .int .i64 (eps + 1), .int .i64 tmod] 30 (0, 0)) from blk_drew (blk_put (cs := #[.string r, .int .i64 (eps + 1), .int .i64 now, .bool gone, .bool true, .int .i64 mod, .int .i64 live, .int .i64 (eps + 1), .int .i64 tmod]) (blk_put (cs := #[.string r, .int .i64 (eps + 1), .int .i64 tm, .bool gone, .bool true, .int .i64 mod, .int .i64 live, .int .i64 (eps + 1), .int .i64 tmod]) (blk_put (cs := #[.string r, .int .i64 ep, .int .i64 tm, .bool gone, .bool true, .int .i64 mod, .int .i64 live, .int .i64 (eps + 1), .int .i64 tmod]) (blk_put (cs := #[.string rep, .int .i64 ep, .int .i64 tm, .bool gone, .bool true, .int .i64 mod, .int .i64 live, .int .i64 (eps + 1), .int .i64 tmod]) (blk_put (cs := #[.string rep, .int .i64 ep, .int .i64 tm, .bool gone, .bool there, .int .i64 mod, .int .i64 live, .int .i64 (eps + 1), .int .i64 tmod]) (blk_put (cs := #[.string rep, .int .i64 ep, .int .i64 tm, .bool gone, .bool there, .int .i64 mod, .int .i64 live, .int .i64 eps, .int .i64 tmod]) (HK1.out) 7 (.int .i64 (eps + 1)) rfl) 4 (.bool true) rfl) 0 (.string r) rfl) 1 (.int .i64 (eps + 1)) rfl) 2 (.int .i64 now) rfl) 3 (.bool false) rfl))
  have hne : w.heap.size + 2 ≠ w.heap.size := by omega
  have HR2 := Lib.hid (show _ = some (.cells #[.string ⟨#[]⟩, .int .i64 0, .int .i64 0, .bool false, .bool false, .int .i64 0, .int .i64 0, .int .i64 0, .int .i64 0] 30 (0, 0)) from blk_drew (blk_far (p := ⟨w.heap.size, 3, none⟩) (blk_far (p := ⟨w.heap.size, 2, none⟩) (blk_far (p := ⟨w.heap.size, 1, none⟩) (blk_far (p := ⟨w.heap.size, 0, none⟩) (blk_far (p := ⟨w.heap.size, 4, none⟩) (blk_far (p := ⟨w.heap.size, 7, none⟩) (HR1.out) hne (.int .i64 (eps + 1))) hne (.bool true)) hne (.string r)) hne (.int .i64 (eps + 1))) hne (.int .i64 now)) hne (.bool false)))
  have HB2 := Lib.hid (below_drew ((((((HB1.out.setCell (p := ⟨w.heap.size, 7, none⟩) (Nat.le_refl _) (.int .i64 (eps + 1))).setCell (p := ⟨w.heap.size, 4, none⟩) (Nat.le_refl _) (.bool true)).setCell (p := ⟨w.heap.size, 0, none⟩) (Nat.le_refl _) (.string r)).setCell (p := ⟨w.heap.size, 1, none⟩) (Nat.le_refl _) (.int .i64 (eps + 1))).setCell (p := ⟨w.heap.size, 2, none⟩) (Nat.le_refl _) (.int .i64 now)).setCell (p := ⟨w.heap.size, 3, none⟩) (Nat.le_refl _) (.bool false)))
  generalize ((((((w1.setCell ⟨w.heap.size, 7, none⟩ (.int .i64 (eps + 1))).setCell ⟨w.heap.size, 4, none⟩ (.bool true)).setCell ⟨w.heap.size, 0, none⟩ (.string r)).setCell ⟨w.heap.size, 1, none⟩ (.int .i64 (eps + 1))).setCell ⟨w.heap.size, 2, none⟩ (.int .i64 now)).setCell ⟨w.heap.size, 3, none⟩ (.bool false)).drew = W at *
  have qK0 := blk_cell HK2.out 0
  have zK0 := blk_frozen HK2.out 0
  have qK1 := blk_cell HK2.out 1
  have zK1 := blk_frozen HK2.out 1
  have qK2 := blk_cell HK2.out 2
  have zK2 := blk_frozen HK2.out 2
  have qK3 := blk_cell HK2.out 3
  have zK3 := blk_frozen HK2.out 3
  have qK4 := blk_cell HK2.out 4
  have zK4 := blk_frozen HK2.out 4
  have qK5 := blk_cell HK2.out 5
  have zK5 := blk_frozen HK2.out 5
  have qK6 := blk_cell HK2.out 6
  have zK6 := blk_frozen HK2.out 6
  have qK7 := blk_cell HK2.out 7
  have zK7 := blk_frozen HK2.out 7
  have qK8 := blk_cell HK2.out 8
  have zK8 := blk_frozen HK2.out 8
  have qR0 := blk_cell HR2.out 0
  have zR0 := blk_frozen HR2.out 0
  have qR1 := blk_cell HR2.out 1
  have zR1 := blk_frozen HR2.out 1
  have qR2 := blk_cell HR2.out 2
  have zR2 := blk_frozen HR2.out 2
  have qR3 := blk_cell HR2.out 3
  have zR3 := blk_frozen HR2.out 3
  have qR4 := blk_cell HR2.out 4
  have zR4 := blk_frozen HR2.out 4
  have qR5 := blk_cell HR2.out 5
  have zR5 := blk_frozen HR2.out 5
  have qR6 := blk_cell HR2.out 6
  have zR6 := blk_frozen HR2.out 6
  have qR7 := blk_cell HR2.out 7
  have zR7 := blk_frozen HR2.out 7
  have qR8 := blk_cell HR2.out 8
  have zR8 := blk_frozen HR2.out 8
  simp only [List.getElem?_toArray, List.getElem?_cons_zero, List.getElem?_cons_succ] at qK0 qK1 qK2 qK3 qK4 qK5 qK6 qK7 qK8 qR0 qR1 qR2 qR3 qR4 qR5 qR6 qR7 qR8
  clear hcK0 hcR0 hzK0 hzR0 hcK1 hcR1 hzK1 hzR1 hcK2 hcR2 hzK2 hzR2 hcK3 hcR3 hzK3 hzR3 hcK4 hcR4 hzK4 hzR4 hcK5 hcR5 hzK5 hzR5 hcK6 hcR6 hzK6 hzR6 hcK7 hcR7 hzK7 hzR7 hcK8 hcR8 hzK8 hzR8 hcS0 hcS1 hcS2 hcS3 hcS4
  go_wp2
  refine bodyPost_ret (results_cell_row rfl _ _ (w.heap.size + 1 + 1) 30 #[.string r, .int .i64 (eps + 1), .int .i64 now, .bool false, .bool true, .int .i64 mod, .int .i64 live, .int .i64 (eps + 1), .int .i64 tmod] (0, 0) _ rfl (blk_put (cs := #[.string r, .int .i64 (eps + 1), .int .i64 now, .bool false, .bool true, .int .i64 mod, .int .i64 live, .int .i64 (eps + 1), .int .i64 0]) (blk_put (cs := #[.string r, .int .i64 (eps + 1), .int .i64 now, .bool false, .bool true, .int .i64 mod, .int .i64 live, .int .i64 0, .int .i64 0]) (blk_put (cs := #[.string r, .int .i64 (eps + 1), .int .i64 now, .bool false, .bool true, .int .i64 mod, .int .i64 0, .int .i64 0, .int .i64 0]) (blk_put (cs := #[.string r, .int .i64 (eps + 1), .int .i64 now, .bool false, .bool true, .int .i64 0, .int .i64 0, .int .i64 0, .int .i64 0]) (blk_put (cs := #[.string r, .int .i64 (eps + 1), .int .i64 now, .bool false, .bool false, .int .i64 0, .int .i64 0, .int .i64 0, .int .i64 0]) (blk_put (cs := #[.string r, .int .i64 (eps + 1), .int .i64 now, .bool false, .bool false, .int .i64 0, .int .i64 0, .int .i64 0, .int .i64 0]) (blk_put (cs := #[.string r, .int .i64 (eps + 1), .int .i64 0, .bool false, .bool false, .int .i64 0, .int .i64 0, .int .i64 0, .int .i64 0]) (blk_put (cs := #[.string r, .int .i64 0, .int .i64 0, .bool false, .bool false, .int .i64 0, .int .i64 0, .int .i64 0, .int .i64 0]) (blk_put (cs := #[.string ⟨#[]⟩, .int .i64 0, .int .i64 0, .bool false, .bool false, .int .i64 0, .int .i64 0, .int .i64 0, .int .i64 0]) (HR2.out) 0 (.string r) rfl) 1 (.int .i64 (eps + 1)) rfl) 2 (.int .i64 now) rfl) 3 (.bool false) rfl) 4 (.bool true) rfl) 5 (.int .i64 mod) rfl) 6 (.int .i64 live) rfl) 7 (.int .i64 (eps + 1)) rfl) 8 (.int .i64 tmod) rfl) Try.underlying30 rfl (by kernel_rfl)) rfl ?_
  exact ⟨by first | rfl | (simp; done), (((((((((HB2.out.setCell (p := ⟨w.heap.size + 1 + 1, 0, none⟩) (by show _ ≤ w.heap.size + 1 + 1; omega) (.string r)).setCell (p := ⟨w.heap.size + 1 + 1, 1, none⟩) (by show _ ≤ w.heap.size + 1 + 1; omega) (.int .i64 (eps + 1))).setCell (p := ⟨w.heap.size + 1 + 1, 2, none⟩) (by show _ ≤ w.heap.size + 1 + 1; omega) (.int .i64 now)).setCell (p := ⟨w.heap.size + 1 + 1, 3, none⟩) (by show _ ≤ w.heap.size + 1 + 1; omega) (.bool false)).setCell (p := ⟨w.heap.size + 1 + 1, 4, none⟩) (by show _ ≤ w.heap.size + 1 + 1; omega) (.bool true)).setCell (p := ⟨w.heap.size + 1 + 1, 5, none⟩) (by show _ ≤ w.heap.size + 1 + 1; omega) (.int .i64 mod)).setCell (p := ⟨w.heap.size + 1 + 1, 6, none⟩) (by show _ ≤ w.heap.size + 1 + 1; omega) (.int .i64 live)).setCell (p := ⟨w.heap.size + 1 + 1, 7, none⟩) (by show _ ≤ w.heap.size + 1 + 1; omega) (.int .i64 (eps + 1))).setCell (p := ⟨w.heap.size + 1 + 1, 8, none⟩) (by show _ ≤ w.heap.size + 1 + 1; omega) (.int .i64 tmod))⟩
end Go.Proofs.Ytobanhbjkomieaa.RP
