import Derived.Test.YtobanhbjkomieaaEWSv
import Derived.Test.YtobanhbjkomieaaRTSv
namespace Go.Proofs.Ytobanhbjkomieaa.OP
open Go.ChangeShapes Go.WideShapes Go.Deep Go.Proofs.YtobanhbjkomieaaW.PrintWords
set_option linter.unusedSimpArgs false
set_option linter.unusedVariables false
abbrev kKnown : Kd ((ByteArray × Int × Int × Bool) × Bool × Int × (Int × Int) × Int) := Kd.pair (Kd.pair Kd.string (Kd.pair I64 (Kd.pair I64 Kd.bool))) (Kd.pair Kd.bool (Kd.pair I64 (Kd.pair (Kd.pair I64 I64) I64)))
set_option maxRecDepth 100000 in
theorem opens_Known (w : World) : Opens Try.prog w 27 kKnown (fun x => (small x.1.1 ∧ wf64 x.1.2.1 ∧ wf64 x.1.2.2.1 ∧ True) ∧ True ∧ wf64 x.2.2.1 ∧ (wf64 x.2.2.2.1.1 ∧ wf64 x.2.2.2.1.2) ∧ wf64 x.2.2.2.2) := by
 have h := opens_struct (P := Try.prog) (w := w) Try.underlying27 (by kernel_rfl) (seg_cons (opens_Record w) rfl (seg_cons (opens_bool (P := Try.prog) (w := w) Try.underlying4 (by kernel_rfl)) rfl (seg_cons (opens_int (P := Try.prog) (w := w) Try.underlying2 (by kernel_rfl)) rfl (seg_cons (opens_Tenant w) rfl (seg_one (opens_int (P := Try.prog) (w := w) Try.underlying2 (by kernel_rfl)) rfl)))))
 exact h
theorem known_cells {w : World} {x : (ByteArray × Int × Int × Bool) × Bool × Int × (Int × Int) × Int} {cs : Array Value} (h : kKnown.K w x cs.toList) :
  cs = #[.string x.1.1, .int .i64 x.1.2.1, .int .i64 x.1.2.2.1, .bool x.1.2.2.2, .bool x.2.1, .int .i64 x.2.2.1, .int .i64 x.2.2.2.1.1, .int .i64 x.2.2.2.1.2, .int .i64 x.2.2.2.2] := by
 obtain ⟨_, _, e, ⟨_, _, rfl, rfl, ⟨_, _, rfl, rfl, ⟨_, _, rfl, rfl, rfl⟩⟩⟩, ⟨_, _, rfl, rfl, ⟨_, _, rfl, rfl, ⟨_, _, rfl, ⟨_, _, rfl, rfl, rfl⟩, rfl⟩⟩⟩⟩ := h
 apply Array.toList_inj.1
 rw [e]
 rfl
end Go.Proofs.Ytobanhbjkomieaa.OP
namespace Go.Proofs.Ytobanhbjkomieaa.RP
open Go.RowKit Go.Proofs.Ytobanhbjkomieaa.PAll Go.Proofs.Ytobanhbjkomieaa.KP Go.Proofs.Ytobanhbjkomieaa.BP Go.Proofs.YtobanhbjkomieaaW.PrintWords Go.Proofs.YtobanhbjkomieaaW.PrintLast Go.Proofs.YtobanhbjkomieaaW.PrintMore
set_option linter.unusedSimpArgs false
set_option linter.unusedVariables false
theorem rMay_any (rep : ByteArray) (hr : rep.size ≤ 140737488351232) (ep tm : Int) (gone there : Bool) (mod live eps tmod : Int) (W : World) :
  Calls Try.prog 29 #[knA rep ep tm gone there mod live eps tmod] W fun e w' => e = .returned (.bool (mayKn rep ep tm gone there mod live eps tmod)) ∧ Below W.heap.size W w' :=
 (PEl.batonref20_May.calls 2 rep ep tm gone there mod live eps tmod _ W (rMay_f rep hr ep tm gone there mod live eps tmod 0)).mono fun _ _ h => by first | exact h | exact ⟨h.1, h.2.below⟩
theorem rLive_any (rep : ByteArray) (ep tm : Int) (gone there : Bool) (mod live eps tmod : Int) (W : World) :
  Calls Try.prog 31 #[knA rep ep tm gone there mod live eps tmod] W fun e w' => e = .returned (.bool (there && !gone)) ∧ Below W.heap.size W w' :=
 (PEl.batonref20_Live.calls rep ep tm gone there mod live eps tmod _ W (rLive_f rep ep tm gone there mod live eps tmod)).mono fun _ _ h => by first | exact h | exact ⟨h.1, h.2.below⟩
theorem electO_len (rep : ByteArray) (ep tm : Int) (gone there : Bool) (mod live eps tmod : Int) (t c r : ByteArray) (now lim : Int) : (electO rep ep tm gone there mod live eps tmod t c r now lim).1.length ≤ 1000 ∧ (electO rep ep tm gone there mod live eps tmod t c r now lim).2.1.length ≤ 1000 := by
 unfold electO
 repeat' split
 all_goals simp
theorem renewO_len (rep : ByteArray) (ep tm : Int) (gone there : Bool) (mod live eps tmod : Int) (t c r : ByteArray) (now lim : Int) : (renewO rep ep tm gone there mod live eps tmod t c now).1.length ≤ 1000 ∧ (renewO rep ep tm gone there mod live eps tmod t c now).2.1.length ≤ 1000 := by
 unfold renewO
 repeat' split
 all_goals simp
theorem buryO_len (rep : ByteArray) (ep tm : Int) (gone there : Bool) (mod live eps tmod : Int) (t c r : ByteArray) (now lim : Int) : (buryO rep ep tm gone there mod live eps tmod t c now).1.length ≤ 1000 ∧ (buryO rep ep tm gone there mod live eps tmod t c now).2.1.length ≤ 1000 := by
 unfold buryO
 repeat' split
 all_goals simp
theorem sweepO_len (rep : ByteArray) (ep tm : Int) (gone there : Bool) (mod live eps tmod : Int) (t c r : ByteArray) (now lim : Int) : (sweepO rep ep tm gone there mod live eps tmod t c).1.length ≤ 1000 ∧ (sweepO rep ep tm gone there mod live eps tmod t c).2.1.length ≤ 1000 := by
 unfold sweepO
 repeat' split
 all_goals simp
set_option maxHeartbeats 2000000 in
set_option maxRecDepth 100000 in
theorem ElectPlans_core (rep : ByteArray) (ep tm : Int) (gone there : Bool) (mod live eps tmod : Int) (t c r : ByteArray) (now lim : Int) (w : World) :
  Calls Try.prog 3 #[knA rep ep tm gone there mod live eps tmod, .string t, .string c, .string r, .int .i64 now, .int .i64 lim] w fun e w' => e = .returned (.bool true) ∧ Below w.heap.size w w' := by
 have h4 := fun g W h => long4_any rep t c r g W h
 cases hl : longS rep t c r
 ·
  have hs : rep.size ≤ 2000 ∧ t.size ≤ 2000 ∧ c.size ≤ 2000 ∧ r.size ≤ 2000 := by have := of_decide_eq_false hl; omega
  obtain ⟨hr, ht, hc, hrr⟩ : rep.size ≤ 140737488351232 ∧ t.size ≤ 140737488351232 ∧ c.size ≤ 140737488351232 ∧ r.size ≤ 140737488351232 := by omega
  clear hs
  have lElect := electO_len rep ep tm gone there mod live eps tmod t c r now lim
  have eElect : ∀ W, Calls Try.prog 25 #[knA rep ep tm gone there mod live eps tmod, .string t, .string c, .string r, .int .i64 now, .int .i64 lim] W (TxRes W (electO rep ep tm gone there mod live eps tmod t c r now lim).1 (electO rep ep tm gone there mod live eps tmod t c r now lim).2.1 (electO rep ep tm gone there mod live eps tmod t c r now lim).2.2) := fun W => elect_any rep hr ep tm gone there mod live eps tmod t c r ht hc hrr now lim W
  have fElect : ∀ W, Calls Try.prog 26 #[knA rep ep tm gone there mod live eps tmod, .string t, .string c, .string r, .int .i64 now, .int .i64 lim] W (TxRes W (electO rep ep tm gone there mod live eps tmod t c r now lim).1 (electO rep ep tm gone there mod live eps tmod t c r now lim).2.1 (electO rep ep tm gone there mod live eps tmod t c r now lim).2.2) := fun W => PEl.batonref20_Elect.calls 5 rep ep tm gone there mod live eps tmod t c r now lim (electO rep ep tm gone there mod live eps tmod t c r now lim).1 (electO rep ep tm gone there mod live eps tmod t c r now lim).2.1 (electO rep ep tm gone there mod live eps tmod t c r now lim).2.2 W (rElect_f rep hr ep tm gone there mod live eps tmod t c r ht hc hrr now lim)
  generalize electO rep ep tm gone there mod live eps tmod t c r now lim = OElect at *
  obtain ⟨cElect, oElect, rElect⟩ := OElect
  have EElect := Lib.hid eElect
  have FElect := Lib.hid fElect
  have NElect := Lib.hid lElect
  clear eElect fElect lElect
  have lRenew := renewO_len rep ep tm gone there mod live eps tmod t c r now lim
  have eRenew : ∀ W, Calls Try.prog 32 #[knA rep ep tm gone there mod live eps tmod, .string t, .string c, .int .i64 now] W (TxRes W (renewO rep ep tm gone there mod live eps tmod t c now).1 (renewO rep ep tm gone there mod live eps tmod t c now).2.1 (renewO rep ep tm gone there mod live eps tmod t c now).2.2) := fun W => renew_any rep hr ep tm gone there mod live eps tmod t c ht hc now W
  have fRenew : ∀ W, Calls Try.prog 33 #[knA rep ep tm gone there mod live eps tmod, .string t, .string c, .int .i64 now] W (TxRes W (renewO rep ep tm gone there mod live eps tmod t c now).1 (renewO rep ep tm gone there mod live eps tmod t c now).2.1 (renewO rep ep tm gone there mod live eps tmod t c now).2.2) := fun W => PEl.batonref20_Renew.calls 2 rep ep tm gone there mod live eps tmod t c now (renewO rep ep tm gone there mod live eps tmod t c now).1 (renewO rep ep tm gone there mod live eps tmod t c now).2.1 (renewO rep ep tm gone there mod live eps tmod t c now).2.2 W (rRenew_f rep hr ep tm gone there mod live eps tmod t c ht hc now)
  generalize renewO rep ep tm gone there mod live eps tmod t c now = ORenew at *
  obtain ⟨cRenew, oRenew, rRenew⟩ := ORenew
  have ERenew := Lib.hid eRenew
  have FRenew := Lib.hid fRenew
  have NRenew := Lib.hid lRenew
  clear eRenew fRenew lRenew
  have lBury := buryO_len rep ep tm gone there mod live eps tmod t c r now lim
  have eBury : ∀ W, Calls Try.prog 34 #[knA rep ep tm gone there mod live eps tmod, .string t, .string c, .int .i64 now] W (TxRes W (buryO rep ep tm gone there mod live eps tmod t c now).1 (buryO rep ep tm gone there mod live eps tmod t c now).2.1 (buryO rep ep tm gone there mod live eps tmod t c now).2.2) := fun W => bury_any rep hr ep tm gone there mod live eps tmod t c ht hc now W
  have fBury : ∀ W, Calls Try.prog 35 #[knA rep ep tm gone there mod live eps tmod, .string t, .string c, .int .i64 now] W (TxRes W (buryO rep ep tm gone there mod live eps tmod t c now).1 (buryO rep ep tm gone there mod live eps tmod t c now).2.1 (buryO rep ep tm gone there mod live eps tmod t c now).2.2) := fun W => PEl.batonref20_Bury.calls 2 rep ep tm gone there mod live eps tmod t c now (buryO rep ep tm gone there mod live eps tmod t c now).1 (buryO rep ep tm gone there mod live eps tmod t c now).2.1 (buryO rep ep tm gone there mod live eps tmod t c now).2.2 W (rBury_f rep hr ep tm gone there mod live eps tmod t c ht hc now)
  generalize buryO rep ep tm gone there mod live eps tmod t c now = OBury at *
  obtain ⟨cBury, oBury, rBury⟩ := OBury
  have EBury := Lib.hid eBury
  have FBury := Lib.hid fBury
  have NBury := Lib.hid lBury
  clear eBury fBury lBury
  have lSweep := sweepO_len rep ep tm gone there mod live eps tmod t c r now lim
  have eSweep : ∀ W, Calls Try.prog 36 #[knA rep ep tm gone there mod live eps tmod, .string t, .string c] W (TxRes W (sweepO rep ep tm gone there mod live eps tmod t c).1 (sweepO rep ep tm gone there mod live eps tmod t c).2.1 (sweepO rep ep tm gone there mod live eps tmod t c).2.2) := fun W => sweep_any rep hr ep tm gone there mod live eps tmod t c ht hc W
  have fSweep : ∀ W, Calls Try.prog 37 #[knA rep ep tm gone there mod live eps tmod, .string t, .string c] W (TxRes W (sweepO rep ep tm gone there mod live eps tmod t c).1 (sweepO rep ep tm gone there mod live eps tmod t c).2.1 (sweepO rep ep tm gone there mod live eps tmod t c).2.2) := fun W => PEl.batonref20_Sweep.calls 2 rep ep tm gone there mod live eps tmod t c (sweepO rep ep tm gone there mod live eps tmod t c).1 (sweepO rep ep tm gone there mod live eps tmod t c).2.1 (sweepO rep ep tm gone there mod live eps tmod t c).2.2 W (rSweep_f rep hr ep tm gone there mod live eps tmod t c ht hc)
  generalize sweepO rep ep tm gone there mod live eps tmod t c = OSweep at *
  obtain ⟨cSweep, oSweep, rSweep⟩ := OSweep
  have ESweep := Lib.hid eSweep
  have FSweep := Lib.hid fSweep
  have NSweep := Lib.hid lSweep
  clear eSweep fSweep lSweep
  have m1 := fun W => electMay_any rep hr ep tm gone there mod live eps tmod W
  have m2 := fun W => rMay_any rep hr ep tm gone there mod live eps tmod W
  have v1 := fun W => klive_any rep ep tm gone there mod live eps tmod W
  have v2 := fun W => rLive_any rep ep tm gone there mod live eps tmod W
  generalize mayKn rep ep tm gone there mod live eps tmod = may at *
  generalize hlv : (there && !gone) = lv at *
  clear hlv
  have M1 := Lib.hid m1
  have M2 := Lib.hid m2
  have V1 := Lib.hid v1
  have V2 := Lib.hid v2
  clear m1 m2 v1 v2
  rw [hl] at h4
  have H4 := Lib.hid h4
  clear h4 hl
  go_enter Try.func3, Try.ntmps3
  go_wp2_with fail
  have G_1 := Lib.hid (show w.heap.size ≤ w.heap.size from by have q := (Below.refl w.heap.size w).size; (try simp at q); omega)
  have HB_2 := Lib.hid (show Below w.heap.size w (w.alloc (.cells #[.string rep, .int .i64 ep, .int .i64 tm, .bool gone, .bool there, .int .i64 mod, .int .i64 live, .int .i64 eps, .int .i64 tmod] 27)) from below_alloc (Below.refl w.heap.size w) (.cells #[.string rep, .int .i64 ep, .int .i64 tm, .bool gone, .bool there, .int .i64 mod, .int .i64 live, .int .i64 eps, .int .i64 tmod] 27))
  have HK_3 := Lib.hid (show (w.alloc (.cells #[.string rep, .int .i64 ep, .int .i64 tm, .bool gone, .bool there, .int .i64 mod, .int .i64 live, .int .i64 eps, .int .i64 tmod] 27)).heap[w.heap.size]? = some (.cells #[.string rep, .int .i64 ep, .int .i64 tm, .bool gone, .bool there, .int .i64 mod, .int .i64 live, .int .i64 eps, .int .i64 tmod] 27 (0, 0)) from heap_alloc_new w (.cells #[.string rep, .int .i64 ep, .int .i64 tm, .bool gone, .bool there, .int .i64 mod, .int .i64 live, .int .i64 eps, .int .i64 tmod] 27))
  have G_4 := Lib.hid (show w.heap.size ≤ w.heap.size + 1 from by have q := HB_2.out.size; (try simp at q); omega)
  have HB_5 := Lib.hid (show Below w.heap.size w ((w.alloc (.cells #[.string rep, .int .i64 ep, .int .i64 tm, .bool gone, .bool there, .int .i64 mod, .int .i64 live, .int .i64 eps, .int .i64 tmod] 27)).alloc (.cells #[.string rep, .string t, .string c, .string r] 9)) from below_alloc HB_2.out (.cells #[.string rep, .string t, .string c, .string r] 9))
  have HK_6 := Lib.hid (show ((w.alloc (.cells #[.string rep, .int .i64 ep, .int .i64 tm, .bool gone, .bool there, .int .i64 mod, .int .i64 live, .int .i64 eps, .int .i64 tmod] 27)).alloc (.cells #[.string rep, .string t, .string c, .string r] 9)).heap[w.heap.size]? = _ from blk_alloc HK_3.out (.cells #[.string rep, .string t, .string c, .string r] 9))
  have HL_7 := Lib.hid (show ((w.alloc (.cells #[.string rep, .int .i64 ep, .int .i64 tm, .bool gone, .bool there, .int .i64 mod, .int .i64 live, .int .i64 eps, .int .i64 tmod] 27)).alloc (.cells #[.string rep, .string t, .string c, .string r] 9)).heap[w.heap.size + 1]? = some (.cells #[.string rep, .string t, .string c, .string r] 9 (0, 0)) from heap_alloc_at (w.alloc (.cells #[.string rep, .int .i64 ep, .int .i64 tm, .bool gone, .bool there, .int .i64 mod, .int .i64 live, .int .i64 eps, .int .i64 tmod] 27)) (.cells #[.string rep, .string t, .string c, .string r] 9) (n := w.heap.size + 1) (by simp))
  generalize ((w.alloc (.cells #[.string rep, .int .i64 ep, .int .i64 tm, .bool gone, .bool there, .int .i64 mod, .int .i64 live, .int .i64 eps, .int .i64 tmod] 27)).alloc (.cells #[.string rep, .string t, .string c, .string r] 9)) = w1 at *
  refine (H4.out _ _ HL_7.out).mono ?_
  rintro e w2 ⟨rfl, hb⟩
  have HK_8 := Lib.hid ((hb.block _ (blk_lt HK_6.out)).trans HK_6.out)
  have HL_9 := Lib.hid ((hb.block _ (blk_lt HL_7.out)).trans HL_7.out)
  have HB_10 := Lib.hid (below_next0 HB_5.out hb)
  clear hb
  have zK0 := blk_cell HK_8.out 0
  have zK1 := blk_cell HK_8.out 1
  have zK2 := blk_cell HK_8.out 2
  have zK3 := blk_cell HK_8.out 3
  have zK4 := blk_cell HK_8.out 4
  have zK5 := blk_cell HK_8.out 5
  have zK6 := blk_cell HK_8.out 6
  have zK7 := blk_cell HK_8.out 7
  have zK8 := blk_cell HK_8.out 8
  have lK := blk_lt HK_8.out
  simp only [List.getElem?_toArray, List.getElem?_cons_zero, List.getElem?_cons_succ] at zK0 zK1 zK2 zK3 zK4 zK5 zK6 zK7 zK8
  go_wp2_with fail
  clear zK0 zK1 zK2 zK3 zK4 zK5 zK6 zK7 zK8 lK
  have G_11 := Lib.hid (show w.heap.size ≤ w2.heap.size from by have q := HB_10.out.size; (try simp at q); omega)
  have HB_12 := Lib.hid (show Below w.heap.size w (w2.alloc (.cells #[.string rep, .int .i64 ep, .int .i64 tm, .bool gone, .bool there, .int .i64 mod, .int .i64 live, .int .i64 eps, .int .i64 tmod] 30)) from below_alloc HB_10.out (.cells #[.string rep, .int .i64 ep, .int .i64 tm, .bool gone, .bool there, .int .i64 mod, .int .i64 live, .int .i64 eps, .int .i64 tmod] 30))
  have HK_13 := Lib.hid (show (w2.alloc (.cells #[.string rep, .int .i64 ep, .int .i64 tm, .bool gone, .bool there, .int .i64 mod, .int .i64 live, .int .i64 eps, .int .i64 tmod] 30)).heap[w.heap.size]? = _ from blk_alloc HK_8.out (.cells #[.string rep, .int .i64 ep, .int .i64 tm, .bool gone, .bool there, .int .i64 mod, .int .i64 live, .int .i64 eps, .int .i64 tmod] 30))
  have HX_14 := Lib.hid (show (w2.alloc (.cells #[.string rep, .int .i64 ep, .int .i64 tm, .bool gone, .bool there, .int .i64 mod, .int .i64 live, .int .i64 eps, .int .i64 tmod] 30)).heap[w2.heap.size]? = some (.cells #[.string rep, .int .i64 ep, .int .i64 tm, .bool gone, .bool there, .int .i64 mod, .int .i64 live, .int .i64 eps, .int .i64 tmod] 30 (0, 0)) from heap_alloc_new w2 (.cells #[.string rep, .int .i64 ep, .int .i64 tm, .bool gone, .bool there, .int .i64 mod, .int .i64 live, .int .i64 eps, .int .i64 tmod] 30))
  generalize (w2.alloc (.cells #[.string rep, .int .i64 ep, .int .i64 tm, .bool gone, .bool there, .int .i64 mod, .int .i64 live, .int .i64 eps, .int .i64 tmod] 30)) = w3 at *
  refine (EElect.out _).mono ?_
  rintro e w4 ⟨v0, v1, rfl, hR0, hR1, hb⟩
  obtain ⟨Ae1, cae1, rfl⟩ := Kd.R_slice hR0
  obtain ⟨Be1, cbe1, rfl⟩ := Kd.R_slice hR1
  have HK_15 := Lib.hid ((hb.block _ (blk_lt HK_13.out)).trans HK_13.out)
  have HX_16 := Lib.hid ((hb.block _ (blk_lt HX_14.out)).trans HX_14.out)
  have HRe10_17 := Lib.hid (Kd.R_lower hR0 HB_12.out.size)
  have HRe11_18 := Lib.hid (Kd.R_lower hR1 HB_12.out.size)
  have HB_19 := Lib.hid (below_next0 HB_12.out hb)
  clear hb hR0 hR1
  have zK0 := blk_cell HK_15.out 0
  have zK1 := blk_cell HK_15.out 1
  have zK2 := blk_cell HK_15.out 2
  have zK3 := blk_cell HK_15.out 3
  have zK4 := blk_cell HK_15.out 4
  have zK5 := blk_cell HK_15.out 5
  have zK6 := blk_cell HK_15.out 6
  have zK7 := blk_cell HK_15.out 7
  have zK8 := blk_cell HK_15.out 8
  have lK := blk_lt HK_15.out
  simp only [List.getElem?_toArray, List.getElem?_cons_zero, List.getElem?_cons_succ] at zK0 zK1 zK2 zK3 zK4 zK5 zK6 zK7 zK8
  go_wp2_with fail
  clear zK0 zK1 zK2 zK3 zK4 zK5 zK6 zK7 zK8 lK
  have G_20 := Lib.hid (show w.heap.size ≤ w4.heap.size from by have q := HB_19.out.size; (try simp at q); omega)
  have HB_21 := Lib.hid (show Below w.heap.size w (w4.alloc (.cells #[.slice Ae1 cElect.length cae1, .slice Be1 oElect.length cbe1] 34)) from below_alloc HB_19.out (.cells #[.slice Ae1 cElect.length cae1, .slice Be1 oElect.length cbe1] 34))
  have HK_22 := Lib.hid (show (w4.alloc (.cells #[.slice Ae1 cElect.length cae1, .slice Be1 oElect.length cbe1] 34)).heap[w.heap.size]? = _ from blk_alloc HK_15.out (.cells #[.slice Ae1 cElect.length cae1, .slice Be1 oElect.length cbe1] 34))
  have HX_23 := Lib.hid (show (w4.alloc (.cells #[.slice Ae1 cElect.length cae1, .slice Be1 oElect.length cbe1] 34)).heap[w2.heap.size]? = _ from blk_alloc HX_16.out (.cells #[.slice Ae1 cElect.length cae1, .slice Be1 oElect.length cbe1] 34))
  have HTA_24 := Lib.hid (show (w4.alloc (.cells #[.slice Ae1 cElect.length cae1, .slice Be1 oElect.length cbe1] 34)).heap[w4.heap.size]? = some (.cells #[.slice Ae1 cElect.length cae1, .slice Be1 oElect.length cbe1] 34 (0, 0)) from heap_alloc_new w4 (.cells #[.slice Ae1 cElect.length cae1, .slice Be1 oElect.length cbe1] 34))
  have HRe10_25 := Lib.hid (Kd.R_alloc HRe10_17.out (.cells #[.slice Ae1 cElect.length cae1, .slice Be1 oElect.length cbe1] 34))
  have HRe11_26 := Lib.hid (Kd.R_alloc HRe11_18.out (.cells #[.slice Ae1 cElect.length cae1, .slice Be1 oElect.length cbe1] 34))
  generalize (w4.alloc (.cells #[.slice Ae1 cElect.length cae1, .slice Be1 oElect.length cbe1] 34)) = w5 at *
  refine (FElect.out _).mono ?_
  rintro e w6 ⟨v0, v1, rfl, hR0, hR1, hb⟩
  obtain ⟨Af1, caf1, rfl⟩ := Kd.R_slice hR0
  obtain ⟨Bf1, cbf1, rfl⟩ := Kd.R_slice hR1
  have HK_27 := Lib.hid ((hb.block _ (blk_lt HK_22.out)).trans HK_22.out)
  have HX_28 := Lib.hid ((hb.block _ (blk_lt HX_23.out)).trans HX_23.out)
  have HTA_29 := Lib.hid ((hb.block _ (blk_lt HTA_24.out)).trans HTA_24.out)
  have HRe10_30 := Lib.hid (Kd.R_below HRe10_25.out hb)
  have HRe11_31 := Lib.hid (Kd.R_below HRe11_26.out hb)
  have HRf10_32 := Lib.hid (Kd.R_lower hR0 HB_21.out.size)
  have HRf11_33 := Lib.hid (Kd.R_lower hR1 HB_21.out.size)
  have HB_34 := Lib.hid (below_next0 HB_21.out hb)
  clear hb hR0 hR1
  go_wp2_with fail
  have N_35 := Lib.hid (show w4.heap.size ≠ w6.heap.size from by have q := blk_lt HTA_29.out; (try simp at q); omega)
  have G_36 := Lib.hid (show w.heap.size ≤ w6.heap.size from by have q := HB_34.out.size; (try simp at q); omega)
  have HB_37 := Lib.hid (show Below w.heap.size w (w6.alloc (.cells #[.slice Af1 cElect.length caf1, .slice Bf1 oElect.length cbf1] 34)) from below_alloc HB_34.out (.cells #[.slice Af1 cElect.length caf1, .slice Bf1 oElect.length cbf1] 34))
  have HK_38 := Lib.hid (show (w6.alloc (.cells #[.slice Af1 cElect.length caf1, .slice Bf1 oElect.length cbf1] 34)).heap[w.heap.size]? = _ from blk_alloc HK_27.out (.cells #[.slice Af1 cElect.length caf1, .slice Bf1 oElect.length cbf1] 34))
  have HX_39 := Lib.hid (show (w6.alloc (.cells #[.slice Af1 cElect.length caf1, .slice Bf1 oElect.length cbf1] 34)).heap[w2.heap.size]? = _ from blk_alloc HX_28.out (.cells #[.slice Af1 cElect.length caf1, .slice Bf1 oElect.length cbf1] 34))
  have HTA_40 := Lib.hid (show (w6.alloc (.cells #[.slice Af1 cElect.length caf1, .slice Bf1 oElect.length cbf1] 34)).heap[w4.heap.size]? = _ from blk_alloc HTA_29.out (.cells #[.slice Af1 cElect.length caf1, .slice Bf1 oElect.length cbf1] 34))
  have HTB_41 := Lib.hid (show (w6.alloc (.cells #[.slice Af1 cElect.length caf1, .slice Bf1 oElect.length cbf1] 34)).heap[w6.heap.size]? = some (.cells #[.slice Af1 cElect.length caf1, .slice Bf1 oElect.length cbf1] 34 (0, 0)) from heap_alloc_new w6 (.cells #[.slice Af1 cElect.length caf1, .slice Bf1 oElect.length cbf1] 34))
  have HRe10_42 := Lib.hid (Kd.R_alloc HRe10_30.out (.cells #[.slice Af1 cElect.length caf1, .slice Bf1 oElect.length cbf1] 34))
  have HRe11_43 := Lib.hid (Kd.R_alloc HRe11_31.out (.cells #[.slice Af1 cElect.length caf1, .slice Bf1 oElect.length cbf1] 34))
  have HRf10_44 := Lib.hid (Kd.R_alloc HRf10_32.out (.cells #[.slice Af1 cElect.length caf1, .slice Bf1 oElect.length cbf1] 34))
  have HRf11_45 := Lib.hid (Kd.R_alloc HRf11_33.out (.cells #[.slice Af1 cElect.length caf1, .slice Bf1 oElect.length cbf1] 34))
  generalize (w6.alloc (.cells #[.slice Af1 cElect.length caf1, .slice Bf1 oElect.length cbf1] 34)) = w7 at *
  have hSB := Lib.hid (show ∀ W, Below w7.heap.size w7 W → (fun W => W.cell? ⟨w4.heap.size, 0, none⟩ = some (.slice Ae1 cElect.length cae1) ∧ W.cell? ⟨w4.heap.size, 1, none⟩ = some (.slice Be1 oElect.length cbe1) ∧ W.cell? ⟨w6.heap.size, 0, none⟩ = some (.slice Af1 cElect.length caf1) ∧ W.cell? ⟨w6.heap.size, 1, none⟩ = some (.slice Bf1 oElect.length cbf1) ∧ W.cell? ⟨w2.heap.size, 0, none⟩ = some (.string rep) ∧ W.cell? ⟨w2.heap.size, 1, none⟩ = some (.int .i64 ep) ∧ W.cell? ⟨w2.heap.size, 2, none⟩ = some (.int .i64 tm) ∧ W.cell? ⟨w2.heap.size, 3, none⟩ = some (.bool gone) ∧ W.cell? ⟨w2.heap.size, 4, none⟩ = some (.bool there) ∧ W.cell? ⟨w2.heap.size, 5, none⟩ = some (.int .i64 mod) ∧ W.cell? ⟨w2.heap.size, 6, none⟩ = some (.int .i64 live) ∧ W.cell? ⟨w2.heap.size, 7, none⟩ = some (.int .i64 eps) ∧ W.cell? ⟨w2.heap.size, 8, none⟩ = some (.int .i64 tmod) ∧ W.cell? ⟨w.heap.size, 0, none⟩ = some (.string rep) ∧ W.cell? ⟨w.heap.size, 1, none⟩ = some (.int .i64 ep) ∧ W.cell? ⟨w.heap.size, 2, none⟩ = some (.int .i64 tm) ∧ W.cell? ⟨w.heap.size, 3, none⟩ = some (.bool gone) ∧ W.cell? ⟨w.heap.size, 4, none⟩ = some (.bool there) ∧ W.cell? ⟨w.heap.size, 5, none⟩ = some (.int .i64 mod) ∧ W.cell? ⟨w.heap.size, 6, none⟩ = some (.int .i64 live) ∧ W.cell? ⟨w.heap.size, 7, none⟩ = some (.int .i64 eps) ∧ W.cell? ⟨w.heap.size, 8, none⟩ = some (.int .i64 tmod)) W from fun W hW => ⟨(hW.cell (p := ⟨w4.heap.size, 0, none⟩) (blk_lt HTA_40.out)).trans ((blk_cell HTA_40.out 0).trans rfl), (hW.cell (p := ⟨w4.heap.size, 1, none⟩) (blk_lt HTA_40.out)).trans ((blk_cell HTA_40.out 1).trans rfl), (hW.cell (p := ⟨w6.heap.size, 0, none⟩) (blk_lt HTB_41.out)).trans ((blk_cell HTB_41.out 0).trans rfl), (hW.cell (p := ⟨w6.heap.size, 1, none⟩) (blk_lt HTB_41.out)).trans ((blk_cell HTB_41.out 1).trans rfl), (hW.cell (p := ⟨w2.heap.size, 0, none⟩) (blk_lt HX_39.out)).trans ((blk_cell HX_39.out 0).trans rfl), (hW.cell (p := ⟨w2.heap.size, 1, none⟩) (blk_lt HX_39.out)).trans ((blk_cell HX_39.out 1).trans rfl), (hW.cell (p := ⟨w2.heap.size, 2, none⟩) (blk_lt HX_39.out)).trans ((blk_cell HX_39.out 2).trans rfl), (hW.cell (p := ⟨w2.heap.size, 3, none⟩) (blk_lt HX_39.out)).trans ((blk_cell HX_39.out 3).trans rfl), (hW.cell (p := ⟨w2.heap.size, 4, none⟩) (blk_lt HX_39.out)).trans ((blk_cell HX_39.out 4).trans rfl), (hW.cell (p := ⟨w2.heap.size, 5, none⟩) (blk_lt HX_39.out)).trans ((blk_cell HX_39.out 5).trans rfl), (hW.cell (p := ⟨w2.heap.size, 6, none⟩) (blk_lt HX_39.out)).trans ((blk_cell HX_39.out 6).trans rfl), (hW.cell (p := ⟨w2.heap.size, 7, none⟩) (blk_lt HX_39.out)).trans ((blk_cell HX_39.out 7).trans rfl), (hW.cell (p := ⟨w2.heap.size, 8, none⟩) (blk_lt HX_39.out)).trans ((blk_cell HX_39.out 8).trans rfl), (hW.cell (p := ⟨w.heap.size, 0, none⟩) (blk_lt HK_38.out)).trans ((blk_cell HK_38.out 0).trans rfl), (hW.cell (p := ⟨w.heap.size, 1, none⟩) (blk_lt HK_38.out)).trans ((blk_cell HK_38.out 1).trans rfl), (hW.cell (p := ⟨w.heap.size, 2, none⟩) (blk_lt HK_38.out)).trans ((blk_cell HK_38.out 2).trans rfl), (hW.cell (p := ⟨w.heap.size, 3, none⟩) (blk_lt HK_38.out)).trans ((blk_cell HK_38.out 3).trans rfl), (hW.cell (p := ⟨w.heap.size, 4, none⟩) (blk_lt HK_38.out)).trans ((blk_cell HK_38.out 4).trans rfl), (hW.cell (p := ⟨w.heap.size, 5, none⟩) (blk_lt HK_38.out)).trans ((blk_cell HK_38.out 5).trans rfl), (hW.cell (p := ⟨w.heap.size, 6, none⟩) (blk_lt HK_38.out)).trans ((blk_cell HK_38.out 6).trans rfl), (hW.cell (p := ⟨w.heap.size, 7, none⟩) (blk_lt HK_38.out)).trans ((blk_cell HK_38.out 7).trans rfl), (hW.cell (p := ⟨w.heap.size, 8, none⟩) (blk_lt HK_38.out)).trans ((blk_cell HK_38.out 8).trans rfl)⟩)
  refine wp_region_noPanic ?_
  refine wp_region_held_drew (S := fun W => W.cell? ⟨w4.heap.size, 0, none⟩ = some (.slice Ae1 cElect.length cae1) ∧ W.cell? ⟨w4.heap.size, 1, none⟩ = some (.slice Be1 oElect.length cbe1) ∧ W.cell? ⟨w6.heap.size, 0, none⟩ = some (.slice Af1 cElect.length caf1) ∧ W.cell? ⟨w6.heap.size, 1, none⟩ = some (.slice Bf1 oElect.length cbf1) ∧ W.cell? ⟨w2.heap.size, 0, none⟩ = some (.string rep) ∧ W.cell? ⟨w2.heap.size, 1, none⟩ = some (.int .i64 ep) ∧ W.cell? ⟨w2.heap.size, 2, none⟩ = some (.int .i64 tm) ∧ W.cell? ⟨w2.heap.size, 3, none⟩ = some (.bool gone) ∧ W.cell? ⟨w2.heap.size, 4, none⟩ = some (.bool there) ∧ W.cell? ⟨w2.heap.size, 5, none⟩ = some (.int .i64 mod) ∧ W.cell? ⟨w2.heap.size, 6, none⟩ = some (.int .i64 live) ∧ W.cell? ⟨w2.heap.size, 7, none⟩ = some (.int .i64 eps) ∧ W.cell? ⟨w2.heap.size, 8, none⟩ = some (.int .i64 tmod) ∧ W.cell? ⟨w.heap.size, 0, none⟩ = some (.string rep) ∧ W.cell? ⟨w.heap.size, 1, none⟩ = some (.int .i64 ep) ∧ W.cell? ⟨w.heap.size, 2, none⟩ = some (.int .i64 tm) ∧ W.cell? ⟨w.heap.size, 3, none⟩ = some (.bool gone) ∧ W.cell? ⟨w.heap.size, 4, none⟩ = some (.bool there) ∧ W.cell? ⟨w.heap.size, 5, none⟩ = some (.int .i64 mod) ∧ W.cell? ⟨w.heap.size, 6, none⟩ = some (.int .i64 live) ∧ W.cell? ⟨w.heap.size, 7, none⟩ = some (.int .i64 eps) ∧ W.cell? ⟨w.heap.size, 8, none⟩ = some (.int .i64 tmod)) (by kernel_rfl) (hSB.out _ (Below.refl _ _).drew) (fun hHeld => ?_)
  have hB0 := Lib.hid (show Below w7.heap.size w7 w7.drew from (Below.refl _ _).drew)
  refine wTake 0 ?_
  refine wTake 1 ?_
  try simp only [Act.put, List.setIfInBounds_toArray, List.set_cons_zero, List.set_cons_succ]
  refine wpAnyH_ready (rs := [2]) (by kernel_rfl) (by simp) (AllReadyH.cons rfl (fun K hK => ?_) AllReadyH.nil)
  go_simp
  refine (same_any cElect oElect NElect.out.1 NElect.out.2 _ _ _ _ _ _ _ _ _ _ _ _ _ (Kd.R_below HRe10_42.out hB0.out) (Kd.R_below HRe11_43.out hB0.out) (Kd.R_below HRf10_44.out hB0.out) (Kd.R_below HRf11_45.out hB0.out)).mono ?_
  rintro e x1 ⟨rfl, hb⟩
  have hB1 := Lib.hid (below_next0 hB0.out hb)
  clear hb
  go_wp2_with fail
  refine hK.out _ _ (hSB.out _ hB1.out) (fun hHeld => ?_)
  clear hK K
  try simp only [Act.put, List.setIfInBounds_toArray, List.set_cons_zero, List.set_cons_succ]
  refine wTake 3 ?_
  refine wTake 4 ?_
  try simp only [Act.put, List.setIfInBounds_toArray, List.set_cons_zero, List.set_cons_succ]
  refine wTake 5 ?_
  try simp only [Act.put, List.setIfInBounds_toArray, List.set_cons_zero, List.set_cons_succ]
  refine wTake 6 ?_
  try simp only [Act.put, List.setIfInBounds_toArray, List.set_cons_zero, List.set_cons_succ]
  refine wTake 7 ?_
  refine wTake 8 ?_
  refine wTake 9 ?_
  try simp only [Act.put, List.setIfInBounds_toArray, List.set_cons_zero, List.set_cons_succ]
  refine wTake 10 ?_
  try simp only [Act.put, List.setIfInBounds_toArray, List.set_cons_zero, List.set_cons_succ]
  refine wTake 12 ?_
  try simp only [Act.put, List.setIfInBounds_toArray, List.set_cons_zero, List.set_cons_succ]
  refine wpAnyH_ready (rs := [11]) (by kernel_rfl) (by simp) (AllReadyH.cons rfl (fun K hK => ?_) AllReadyH.nil)
  go_simp
  with_reducible refine (M1.out _).mono ?_
  rintro e x2 ⟨rfl, hb⟩
  have hB2 := Lib.hid (below_next0 hB1.out hb)
  clear hb
  go_wp2_with fail
  refine hK.out _ _ (hSB.out _ hB2.out) (fun hHeld => ?_)
  clear hK K
  try simp only [Act.put, List.setIfInBounds_toArray, List.set_cons_zero, List.set_cons_succ]
  refine wpAnyH_ready (rs := [13]) (by kernel_rfl) (by simp) (AllReadyH.cons rfl (fun K hK => ?_) AllReadyH.nil)
  go_simp
  with_reducible refine (M2.out _).mono ?_
  rintro e x3 ⟨rfl, hb⟩
  have hB3 := Lib.hid (below_next0 hB2.out hb)
  clear hb
  go_wp2_with fail
  refine hK.out _ _ (hSB.out _ hB3.out) (fun hHeld => ?_)
  clear hK K
  try simp only [Act.put, List.setIfInBounds_toArray, List.set_cons_zero, List.set_cons_succ]
  refine wTake 14 ?_
  refine wTake 15 ?_
  refine wTake 16 ?_
  try simp only [Act.put, List.setIfInBounds_toArray, List.set_cons_zero, List.set_cons_succ]
  refine wTake 17 ?_
  try simp only [Act.put, List.setIfInBounds_toArray, List.set_cons_zero, List.set_cons_succ]
  refine wTake 19 ?_
  try simp only [Act.put, List.setIfInBounds_toArray, List.set_cons_zero, List.set_cons_succ]
  refine wpAnyH_ready (rs := [18]) (by kernel_rfl) (by simp) (AllReadyH.cons rfl (fun K hK => ?_) AllReadyH.nil)
  go_simp
  with_reducible refine (V1.out _).mono ?_
  rintro e x4 ⟨rfl, hb⟩
  have hB4 := Lib.hid (below_next0 hB3.out hb)
  clear hb
  go_wp2_with fail
  refine hK.out _ _ (hSB.out _ hB4.out) (fun hHeld => ?_)
  clear hK K
  try simp only [Act.put, List.setIfInBounds_toArray, List.set_cons_zero, List.set_cons_succ]
  refine wpAnyH_ready (rs := [20]) (by kernel_rfl) (by simp) (AllReadyH.cons rfl (fun K hK => ?_) AllReadyH.nil)
  go_simp
  with_reducible refine (V2.out _).mono ?_
  rintro e x5 ⟨rfl, hb⟩
  have hB5 := Lib.hid (below_next0 hB4.out hb)
  clear hb
  go_wp2_with fail
  refine hK.out _ _ (hSB.out _ hB5.out) (fun hHeld => ?_)
  clear hK K
  try simp only [Act.put, List.setIfInBounds_toArray, List.set_cons_zero, List.set_cons_succ]
  refine wTake 21 ?_
  refine wTake 22 ?_
  try simp only [Act.put, List.setIfInBounds_toArray, List.set_cons_zero, List.set_cons_succ]
  refine wpAnyH_done (by kernel_rfl) ?_ _
  refine NoPanic.normal ?_
  have hb : Below w7.heap.size w7 x5 := hB5.out
  have HK_46 := Lib.hid ((hb.block _ (blk_lt HK_38.out)).trans HK_38.out)
  have HX_47 := Lib.hid ((hb.block _ (blk_lt HX_39.out)).trans HX_39.out)
  have HTA_48 := Lib.hid ((hb.block _ (blk_lt HTA_40.out)).trans HTA_40.out)
  have HTB_49 := Lib.hid ((hb.block _ (blk_lt HTB_41.out)).trans HTB_41.out)
  have HRe10_50 := Lib.hid (Kd.R_below HRe10_42.out hb)
  have HRe11_51 := Lib.hid (Kd.R_below HRe11_43.out hb)
  have HRf10_52 := Lib.hid (Kd.R_below HRf10_44.out hb)
  have HRf11_53 := Lib.hid (Kd.R_below HRf11_45.out hb)
  have HB_54 := Lib.hid (below_next0 HB_37.out hb)
  clear hb
  have zX0 := blk_cell HX_47.out 0
  have zX1 := blk_cell HX_47.out 1
  have zX2 := blk_cell HX_47.out 2
  have zX3 := blk_cell HX_47.out 3
  have zX4 := blk_cell HX_47.out 4
  have zX5 := blk_cell HX_47.out 5
  have zX6 := blk_cell HX_47.out 6
  have zX7 := blk_cell HX_47.out 7
  have zX8 := blk_cell HX_47.out 8
  have lX := blk_lt HX_47.out
  simp only [List.getElem?_toArray, List.getElem?_cons_zero, List.getElem?_cons_succ] at zX0 zX1 zX2 zX3 zX4 zX5 zX6 zX7 zX8
  go_wp2_with fail
  clear zX0 zX1 zX2 zX3 zX4 zX5 zX6 zX7 zX8 lX
  refine (ERenew.out _).mono ?_
  rintro e w8 ⟨v0, v1, rfl, hR0, hR1, hb⟩
  obtain ⟨Ae2, cae2, rfl⟩ := Kd.R_slice hR0
  obtain ⟨Be2, cbe2, rfl⟩ := Kd.R_slice hR1
  have HK_55 := Lib.hid ((hb.block _ (blk_lt HK_46.out)).trans HK_46.out)
  have HX_56 := Lib.hid ((hb.block _ (blk_lt HX_47.out)).trans HX_47.out)
  have HTA_57 := Lib.hid ((hb.block _ (blk_lt HTA_48.out)).trans HTA_48.out)
  have HTB_58 := Lib.hid ((hb.block _ (blk_lt HTB_49.out)).trans HTB_49.out)
  have HRe20_59 := Lib.hid (Kd.R_lower hR0 HB_54.out.size)
  have HRe21_60 := Lib.hid (Kd.R_lower hR1 HB_54.out.size)
  have HB_61 := Lib.hid (below_next0 HB_54.out hb)
  clear hb hR0 hR1
  have zK0 := blk_cell HK_55.out 0
  have zK1 := blk_cell HK_55.out 1
  have zK2 := blk_cell HK_55.out 2
  have zK3 := blk_cell HK_55.out 3
  have zK4 := blk_cell HK_55.out 4
  have zK5 := blk_cell HK_55.out 5
  have zK6 := blk_cell HK_55.out 6
  have zK7 := blk_cell HK_55.out 7
  have zK8 := blk_cell HK_55.out 8
  have lK := blk_lt HK_55.out
  have zTA0 := blk_cell HTA_57.out 0
  have zTA1 := blk_cell HTA_57.out 1
  have lTA := blk_lt HTA_57.out
  have yTA0 := blk_frozen HTA_57.out 0
  have yTA1 := blk_frozen HTA_57.out 1
  have dTAK : w4.heap.size ≠ w.heap.size := ne_type HTA_57.out HK_55.out (by decide)
  simp only [List.getElem?_toArray, List.getElem?_cons_zero, List.getElem?_cons_succ] at zK0 zK1 zK2 zK3 zK4 zK5 zK6 zK7 zK8 zTA0 zTA1
  go_wp2_with fail
  clear zK0 zK1 zK2 zK3 zK4 zK5 zK6 zK7 zK8 zTA0 zTA1 lK lTA dTAK yTA0 yTA1
  have HB_62 := Lib.hid (show Below w.heap.size w (w8.setCell ⟨w4.heap.size, 0, none⟩ (.slice Ae2 cRenew.length cae2)) from HB_61.out.setCell (p := ⟨w4.heap.size, 0, none⟩) G_20.out (.slice Ae2 cRenew.length cae2))
  have HRe20_63 := Lib.hid (Kd.R_set HRe20_59.out HTA_57.out (by decide) 0 (.slice Ae2 cRenew.length cae2))
  have HRe21_64 := Lib.hid (Kd.R_set HRe21_60.out HTA_57.out (by decide) 0 (.slice Ae2 cRenew.length cae2))
  have HK_65 := Lib.hid (show (w8.setCell ⟨w4.heap.size, 0, none⟩ (.slice Ae2 cRenew.length cae2)).heap[w.heap.size]? = _ from blk_far (p := ⟨w4.heap.size, 0, none⟩) HK_55.out (ne_type HK_55.out HTA_57.out (by decide)) (.slice Ae2 cRenew.length cae2))
  have HX_66 := Lib.hid (show (w8.setCell ⟨w4.heap.size, 0, none⟩ (.slice Ae2 cRenew.length cae2)).heap[w2.heap.size]? = _ from blk_far (p := ⟨w4.heap.size, 0, none⟩) HX_56.out (ne_type HX_56.out HTA_57.out (by decide)) (.slice Ae2 cRenew.length cae2))
  have HTB_67 := Lib.hid (show (w8.setCell ⟨w4.heap.size, 0, none⟩ (.slice Ae2 cRenew.length cae2)).heap[w6.heap.size]? = _ from blk_far (p := ⟨w4.heap.size, 0, none⟩) HTB_58.out (N_35.out.symm) (.slice Ae2 cRenew.length cae2))
  have HTA_68 := Lib.hid (show (w8.setCell ⟨w4.heap.size, 0, none⟩ (.slice Ae2 cRenew.length cae2)).heap[w4.heap.size]? = some (.cells #[.slice Ae2 cRenew.length cae2, .slice Be1 oElect.length cbe1] 34 (0, 0)) from blk_put (cs := #[.slice Ae1 cElect.length cae1, .slice Be1 oElect.length cbe1]) HTA_57.out 0 (.slice Ae2 cRenew.length cae2) rfl)
  have HB_69 := Lib.hid (show Below w.heap.size w ((w8.setCell ⟨w4.heap.size, 0, none⟩ (.slice Ae2 cRenew.length cae2)).setCell ⟨w4.heap.size, 1, none⟩ (.slice Be2 oRenew.length cbe2)) from HB_62.out.setCell (p := ⟨w4.heap.size, 1, none⟩) G_20.out (.slice Be2 oRenew.length cbe2))
  have HRe20_70 := Lib.hid (Kd.R_set HRe20_63.out HTA_68.out (by decide) 1 (.slice Be2 oRenew.length cbe2))
  have HRe21_71 := Lib.hid (Kd.R_set HRe21_64.out HTA_68.out (by decide) 1 (.slice Be2 oRenew.length cbe2))
  have HK_72 := Lib.hid (show ((w8.setCell ⟨w4.heap.size, 0, none⟩ (.slice Ae2 cRenew.length cae2)).setCell ⟨w4.heap.size, 1, none⟩ (.slice Be2 oRenew.length cbe2)).heap[w.heap.size]? = _ from blk_far (p := ⟨w4.heap.size, 1, none⟩) HK_65.out (ne_type HK_65.out HTA_68.out (by decide)) (.slice Be2 oRenew.length cbe2))
  have HX_73 := Lib.hid (show ((w8.setCell ⟨w4.heap.size, 0, none⟩ (.slice Ae2 cRenew.length cae2)).setCell ⟨w4.heap.size, 1, none⟩ (.slice Be2 oRenew.length cbe2)).heap[w2.heap.size]? = _ from blk_far (p := ⟨w4.heap.size, 1, none⟩) HX_66.out (ne_type HX_66.out HTA_68.out (by decide)) (.slice Be2 oRenew.length cbe2))
  have HTB_74 := Lib.hid (show ((w8.setCell ⟨w4.heap.size, 0, none⟩ (.slice Ae2 cRenew.length cae2)).setCell ⟨w4.heap.size, 1, none⟩ (.slice Be2 oRenew.length cbe2)).heap[w6.heap.size]? = _ from blk_far (p := ⟨w4.heap.size, 1, none⟩) HTB_67.out (N_35.out.symm) (.slice Be2 oRenew.length cbe2))
  have HTA_75 := Lib.hid (show ((w8.setCell ⟨w4.heap.size, 0, none⟩ (.slice Ae2 cRenew.length cae2)).setCell ⟨w4.heap.size, 1, none⟩ (.slice Be2 oRenew.length cbe2)).heap[w4.heap.size]? = some (.cells #[.slice Ae2 cRenew.length cae2, .slice Be2 oRenew.length cbe2] 34 (0, 0)) from blk_put (cs := #[.slice Ae2 cRenew.length cae2, .slice Be1 oElect.length cbe1]) HTA_68.out 1 (.slice Be2 oRenew.length cbe2) rfl)
  generalize ((w8.setCell ⟨w4.heap.size, 0, none⟩ (.slice Ae2 cRenew.length cae2)).setCell ⟨w4.heap.size, 1, none⟩ (.slice Be2 oRenew.length cbe2)) = w9 at *
  refine (FRenew.out _).mono ?_
  rintro e w10 ⟨v0, v1, rfl, hR0, hR1, hb⟩
  obtain ⟨Af2, caf2, rfl⟩ := Kd.R_slice hR0
  obtain ⟨Bf2, cbf2, rfl⟩ := Kd.R_slice hR1
  have HK_76 := Lib.hid ((hb.block _ (blk_lt HK_72.out)).trans HK_72.out)
  have HX_77 := Lib.hid ((hb.block _ (blk_lt HX_73.out)).trans HX_73.out)
  have HTA_78 := Lib.hid ((hb.block _ (blk_lt HTA_75.out)).trans HTA_75.out)
  have HTB_79 := Lib.hid ((hb.block _ (blk_lt HTB_74.out)).trans HTB_74.out)
  have HRe20_80 := Lib.hid (Kd.R_below HRe20_70.out hb)
  have HRe21_81 := Lib.hid (Kd.R_below HRe21_71.out hb)
  have HRf20_82 := Lib.hid (Kd.R_lower hR0 HB_69.out.size)
  have HRf21_83 := Lib.hid (Kd.R_lower hR1 HB_69.out.size)
  have HB_84 := Lib.hid (below_next0 HB_69.out hb)
  clear hb hR0 hR1
  have zTA0 := blk_cell HTA_78.out 0
  have zTA1 := blk_cell HTA_78.out 1
  have lTA := blk_lt HTA_78.out
  have zTB0 := blk_cell HTB_79.out 0
  have zTB1 := blk_cell HTB_79.out 1
  have lTB := blk_lt HTB_79.out
  have yTB0 := blk_frozen HTB_79.out 0
  have yTB1 := blk_frozen HTB_79.out 1
  have dTBTA : w6.heap.size ≠ w4.heap.size := N_35.out.symm
  simp only [List.getElem?_toArray, List.getElem?_cons_zero, List.getElem?_cons_succ] at zTA0 zTA1 zTB0 zTB1
  go_wp2_with fail
  clear zTA0 zTA1 zTB0 zTB1 lTA lTB dTBTA yTB0 yTB1
  have HB_85 := Lib.hid (show Below w.heap.size w (w10.setCell ⟨w6.heap.size, 0, none⟩ (.slice Af2 cRenew.length caf2)) from HB_84.out.setCell (p := ⟨w6.heap.size, 0, none⟩) G_36.out (.slice Af2 cRenew.length caf2))
  have HRe20_86 := Lib.hid (Kd.R_set HRe20_80.out HTB_79.out (by decide) 0 (.slice Af2 cRenew.length caf2))
  have HRe21_87 := Lib.hid (Kd.R_set HRe21_81.out HTB_79.out (by decide) 0 (.slice Af2 cRenew.length caf2))
  have HRf20_88 := Lib.hid (Kd.R_set HRf20_82.out HTB_79.out (by decide) 0 (.slice Af2 cRenew.length caf2))
  have HRf21_89 := Lib.hid (Kd.R_set HRf21_83.out HTB_79.out (by decide) 0 (.slice Af2 cRenew.length caf2))
  have HK_90 := Lib.hid (show (w10.setCell ⟨w6.heap.size, 0, none⟩ (.slice Af2 cRenew.length caf2)).heap[w.heap.size]? = _ from blk_far (p := ⟨w6.heap.size, 0, none⟩) HK_76.out (ne_type HK_76.out HTB_79.out (by decide)) (.slice Af2 cRenew.length caf2))
  have HX_91 := Lib.hid (show (w10.setCell ⟨w6.heap.size, 0, none⟩ (.slice Af2 cRenew.length caf2)).heap[w2.heap.size]? = _ from blk_far (p := ⟨w6.heap.size, 0, none⟩) HX_77.out (ne_type HX_77.out HTB_79.out (by decide)) (.slice Af2 cRenew.length caf2))
  have HTA_92 := Lib.hid (show (w10.setCell ⟨w6.heap.size, 0, none⟩ (.slice Af2 cRenew.length caf2)).heap[w4.heap.size]? = _ from blk_far (p := ⟨w6.heap.size, 0, none⟩) HTA_78.out (N_35.out) (.slice Af2 cRenew.length caf2))
  have HTB_93 := Lib.hid (show (w10.setCell ⟨w6.heap.size, 0, none⟩ (.slice Af2 cRenew.length caf2)).heap[w6.heap.size]? = some (.cells #[.slice Af2 cRenew.length caf2, .slice Bf1 oElect.length cbf1] 34 (0, 0)) from blk_put (cs := #[.slice Af1 cElect.length caf1, .slice Bf1 oElect.length cbf1]) HTB_79.out 0 (.slice Af2 cRenew.length caf2) rfl)
  have HB_94 := Lib.hid (show Below w.heap.size w ((w10.setCell ⟨w6.heap.size, 0, none⟩ (.slice Af2 cRenew.length caf2)).setCell ⟨w6.heap.size, 1, none⟩ (.slice Bf2 oRenew.length cbf2)) from HB_85.out.setCell (p := ⟨w6.heap.size, 1, none⟩) G_36.out (.slice Bf2 oRenew.length cbf2))
  have HRe20_95 := Lib.hid (Kd.R_set HRe20_86.out HTB_93.out (by decide) 1 (.slice Bf2 oRenew.length cbf2))
  have HRe21_96 := Lib.hid (Kd.R_set HRe21_87.out HTB_93.out (by decide) 1 (.slice Bf2 oRenew.length cbf2))
  have HRf20_97 := Lib.hid (Kd.R_set HRf20_88.out HTB_93.out (by decide) 1 (.slice Bf2 oRenew.length cbf2))
  have HRf21_98 := Lib.hid (Kd.R_set HRf21_89.out HTB_93.out (by decide) 1 (.slice Bf2 oRenew.length cbf2))
  have HK_99 := Lib.hid (show ((w10.setCell ⟨w6.heap.size, 0, none⟩ (.slice Af2 cRenew.length caf2)).setCell ⟨w6.heap.size, 1, none⟩ (.slice Bf2 oRenew.length cbf2)).heap[w.heap.size]? = _ from blk_far (p := ⟨w6.heap.size, 1, none⟩) HK_90.out (ne_type HK_90.out HTB_93.out (by decide)) (.slice Bf2 oRenew.length cbf2))
  have HX_100 := Lib.hid (show ((w10.setCell ⟨w6.heap.size, 0, none⟩ (.slice Af2 cRenew.length caf2)).setCell ⟨w6.heap.size, 1, none⟩ (.slice Bf2 oRenew.length cbf2)).heap[w2.heap.size]? = _ from blk_far (p := ⟨w6.heap.size, 1, none⟩) HX_91.out (ne_type HX_91.out HTB_93.out (by decide)) (.slice Bf2 oRenew.length cbf2))
  have HTA_101 := Lib.hid (show ((w10.setCell ⟨w6.heap.size, 0, none⟩ (.slice Af2 cRenew.length caf2)).setCell ⟨w6.heap.size, 1, none⟩ (.slice Bf2 oRenew.length cbf2)).heap[w4.heap.size]? = _ from blk_far (p := ⟨w6.heap.size, 1, none⟩) HTA_92.out (N_35.out) (.slice Bf2 oRenew.length cbf2))
  have HTB_102 := Lib.hid (show ((w10.setCell ⟨w6.heap.size, 0, none⟩ (.slice Af2 cRenew.length caf2)).setCell ⟨w6.heap.size, 1, none⟩ (.slice Bf2 oRenew.length cbf2)).heap[w6.heap.size]? = some (.cells #[.slice Af2 cRenew.length caf2, .slice Bf2 oRenew.length cbf2] 34 (0, 0)) from blk_put (cs := #[.slice Af2 cRenew.length caf2, .slice Bf1 oElect.length cbf1]) HTB_93.out 1 (.slice Bf2 oRenew.length cbf2) rfl)
  generalize ((w10.setCell ⟨w6.heap.size, 0, none⟩ (.slice Af2 cRenew.length caf2)).setCell ⟨w6.heap.size, 1, none⟩ (.slice Bf2 oRenew.length cbf2)) = w11 at *
  refine (same_any cRenew oRenew NRenew.out.1 NRenew.out.2 _ _ _ _ _ _ _ _ _ _ _ _ _ HRe20_95.out HRe21_96.out HRf20_97.out HRf21_98.out).mono ?_
  rintro e w12 ⟨rfl, hb⟩
  have HK_103 := Lib.hid ((hb.block _ (blk_lt HK_99.out)).trans HK_99.out)
  have HX_104 := Lib.hid ((hb.block _ (blk_lt HX_100.out)).trans HX_100.out)
  have HTA_105 := Lib.hid ((hb.block _ (blk_lt HTA_101.out)).trans HTA_101.out)
  have HTB_106 := Lib.hid ((hb.block _ (blk_lt HTB_102.out)).trans HTB_102.out)
  have HRe20_107 := Lib.hid (Kd.R_below HRe20_95.out hb)
  have HRe21_108 := Lib.hid (Kd.R_below HRe21_96.out hb)
  have HRf20_109 := Lib.hid (Kd.R_below HRf20_97.out hb)
  have HRf21_110 := Lib.hid (Kd.R_below HRf21_98.out hb)
  have HB_111 := Lib.hid (below_next0 HB_94.out hb)
  clear hb
  have zX0 := blk_cell HX_104.out 0
  have zX1 := blk_cell HX_104.out 1
  have zX2 := blk_cell HX_104.out 2
  have zX3 := blk_cell HX_104.out 3
  have zX4 := blk_cell HX_104.out 4
  have zX5 := blk_cell HX_104.out 5
  have zX6 := blk_cell HX_104.out 6
  have zX7 := blk_cell HX_104.out 7
  have zX8 := blk_cell HX_104.out 8
  have lX := blk_lt HX_104.out
  simp only [List.getElem?_toArray, List.getElem?_cons_zero, List.getElem?_cons_succ] at zX0 zX1 zX2 zX3 zX4 zX5 zX6 zX7 zX8
  go_wp2_with fail
  clear zX0 zX1 zX2 zX3 zX4 zX5 zX6 zX7 zX8 lX
  refine (EBury.out _).mono ?_
  rintro e w13 ⟨v0, v1, rfl, hR0, hR1, hb⟩
  obtain ⟨Ae3, cae3, rfl⟩ := Kd.R_slice hR0
  obtain ⟨Be3, cbe3, rfl⟩ := Kd.R_slice hR1
  have HK_112 := Lib.hid ((hb.block _ (blk_lt HK_103.out)).trans HK_103.out)
  have HX_113 := Lib.hid ((hb.block _ (blk_lt HX_104.out)).trans HX_104.out)
  have HTA_114 := Lib.hid ((hb.block _ (blk_lt HTA_105.out)).trans HTA_105.out)
  have HTB_115 := Lib.hid ((hb.block _ (blk_lt HTB_106.out)).trans HTB_106.out)
  have HRe30_116 := Lib.hid (Kd.R_lower hR0 HB_111.out.size)
  have HRe31_117 := Lib.hid (Kd.R_lower hR1 HB_111.out.size)
  have HB_118 := Lib.hid (below_next0 HB_111.out hb)
  clear hb hR0 hR1
  have zK0 := blk_cell HK_112.out 0
  have zK1 := blk_cell HK_112.out 1
  have zK2 := blk_cell HK_112.out 2
  have zK3 := blk_cell HK_112.out 3
  have zK4 := blk_cell HK_112.out 4
  have zK5 := blk_cell HK_112.out 5
  have zK6 := blk_cell HK_112.out 6
  have zK7 := blk_cell HK_112.out 7
  have zK8 := blk_cell HK_112.out 8
  have lK := blk_lt HK_112.out
  have zTA0 := blk_cell HTA_114.out 0
  have zTA1 := blk_cell HTA_114.out 1
  have lTA := blk_lt HTA_114.out
  have yTA0 := blk_frozen HTA_114.out 0
  have yTA1 := blk_frozen HTA_114.out 1
  have dTAK : w4.heap.size ≠ w.heap.size := ne_type HTA_114.out HK_112.out (by decide)
  simp only [List.getElem?_toArray, List.getElem?_cons_zero, List.getElem?_cons_succ] at zK0 zK1 zK2 zK3 zK4 zK5 zK6 zK7 zK8 zTA0 zTA1
  go_wp2_with fail
  clear zK0 zK1 zK2 zK3 zK4 zK5 zK6 zK7 zK8 zTA0 zTA1 lK lTA dTAK yTA0 yTA1
  have HB_119 := Lib.hid (show Below w.heap.size w (w13.setCell ⟨w4.heap.size, 0, none⟩ (.slice Ae3 cBury.length cae3)) from HB_118.out.setCell (p := ⟨w4.heap.size, 0, none⟩) G_20.out (.slice Ae3 cBury.length cae3))
  have HRe30_120 := Lib.hid (Kd.R_set HRe30_116.out HTA_114.out (by decide) 0 (.slice Ae3 cBury.length cae3))
  have HRe31_121 := Lib.hid (Kd.R_set HRe31_117.out HTA_114.out (by decide) 0 (.slice Ae3 cBury.length cae3))
  have HK_122 := Lib.hid (show (w13.setCell ⟨w4.heap.size, 0, none⟩ (.slice Ae3 cBury.length cae3)).heap[w.heap.size]? = _ from blk_far (p := ⟨w4.heap.size, 0, none⟩) HK_112.out (ne_type HK_112.out HTA_114.out (by decide)) (.slice Ae3 cBury.length cae3))
  have HX_123 := Lib.hid (show (w13.setCell ⟨w4.heap.size, 0, none⟩ (.slice Ae3 cBury.length cae3)).heap[w2.heap.size]? = _ from blk_far (p := ⟨w4.heap.size, 0, none⟩) HX_113.out (ne_type HX_113.out HTA_114.out (by decide)) (.slice Ae3 cBury.length cae3))
  have HTB_124 := Lib.hid (show (w13.setCell ⟨w4.heap.size, 0, none⟩ (.slice Ae3 cBury.length cae3)).heap[w6.heap.size]? = _ from blk_far (p := ⟨w4.heap.size, 0, none⟩) HTB_115.out (N_35.out.symm) (.slice Ae3 cBury.length cae3))
  have HTA_125 := Lib.hid (show (w13.setCell ⟨w4.heap.size, 0, none⟩ (.slice Ae3 cBury.length cae3)).heap[w4.heap.size]? = some (.cells #[.slice Ae3 cBury.length cae3, .slice Be2 oRenew.length cbe2] 34 (0, 0)) from blk_put (cs := #[.slice Ae2 cRenew.length cae2, .slice Be2 oRenew.length cbe2]) HTA_114.out 0 (.slice Ae3 cBury.length cae3) rfl)
  have HB_126 := Lib.hid (show Below w.heap.size w ((w13.setCell ⟨w4.heap.size, 0, none⟩ (.slice Ae3 cBury.length cae3)).setCell ⟨w4.heap.size, 1, none⟩ (.slice Be3 oBury.length cbe3)) from HB_119.out.setCell (p := ⟨w4.heap.size, 1, none⟩) G_20.out (.slice Be3 oBury.length cbe3))
  have HRe30_127 := Lib.hid (Kd.R_set HRe30_120.out HTA_125.out (by decide) 1 (.slice Be3 oBury.length cbe3))
  have HRe31_128 := Lib.hid (Kd.R_set HRe31_121.out HTA_125.out (by decide) 1 (.slice Be3 oBury.length cbe3))
  have HK_129 := Lib.hid (show ((w13.setCell ⟨w4.heap.size, 0, none⟩ (.slice Ae3 cBury.length cae3)).setCell ⟨w4.heap.size, 1, none⟩ (.slice Be3 oBury.length cbe3)).heap[w.heap.size]? = _ from blk_far (p := ⟨w4.heap.size, 1, none⟩) HK_122.out (ne_type HK_122.out HTA_125.out (by decide)) (.slice Be3 oBury.length cbe3))
  have HX_130 := Lib.hid (show ((w13.setCell ⟨w4.heap.size, 0, none⟩ (.slice Ae3 cBury.length cae3)).setCell ⟨w4.heap.size, 1, none⟩ (.slice Be3 oBury.length cbe3)).heap[w2.heap.size]? = _ from blk_far (p := ⟨w4.heap.size, 1, none⟩) HX_123.out (ne_type HX_123.out HTA_125.out (by decide)) (.slice Be3 oBury.length cbe3))
  have HTB_131 := Lib.hid (show ((w13.setCell ⟨w4.heap.size, 0, none⟩ (.slice Ae3 cBury.length cae3)).setCell ⟨w4.heap.size, 1, none⟩ (.slice Be3 oBury.length cbe3)).heap[w6.heap.size]? = _ from blk_far (p := ⟨w4.heap.size, 1, none⟩) HTB_124.out (N_35.out.symm) (.slice Be3 oBury.length cbe3))
  have HTA_132 := Lib.hid (show ((w13.setCell ⟨w4.heap.size, 0, none⟩ (.slice Ae3 cBury.length cae3)).setCell ⟨w4.heap.size, 1, none⟩ (.slice Be3 oBury.length cbe3)).heap[w4.heap.size]? = some (.cells #[.slice Ae3 cBury.length cae3, .slice Be3 oBury.length cbe3] 34 (0, 0)) from blk_put (cs := #[.slice Ae3 cBury.length cae3, .slice Be2 oRenew.length cbe2]) HTA_125.out 1 (.slice Be3 oBury.length cbe3) rfl)
  generalize ((w13.setCell ⟨w4.heap.size, 0, none⟩ (.slice Ae3 cBury.length cae3)).setCell ⟨w4.heap.size, 1, none⟩ (.slice Be3 oBury.length cbe3)) = w14 at *
  refine (FBury.out _).mono ?_
  rintro e w15 ⟨v0, v1, rfl, hR0, hR1, hb⟩
  obtain ⟨Af3, caf3, rfl⟩ := Kd.R_slice hR0
  obtain ⟨Bf3, cbf3, rfl⟩ := Kd.R_slice hR1
  have HK_133 := Lib.hid ((hb.block _ (blk_lt HK_129.out)).trans HK_129.out)
  have HX_134 := Lib.hid ((hb.block _ (blk_lt HX_130.out)).trans HX_130.out)
  have HTA_135 := Lib.hid ((hb.block _ (blk_lt HTA_132.out)).trans HTA_132.out)
  have HTB_136 := Lib.hid ((hb.block _ (blk_lt HTB_131.out)).trans HTB_131.out)
  have HRe30_137 := Lib.hid (Kd.R_below HRe30_127.out hb)
  have HRe31_138 := Lib.hid (Kd.R_below HRe31_128.out hb)
  have HRf30_139 := Lib.hid (Kd.R_lower hR0 HB_126.out.size)
  have HRf31_140 := Lib.hid (Kd.R_lower hR1 HB_126.out.size)
  have HB_141 := Lib.hid (below_next0 HB_126.out hb)
  clear hb hR0 hR1
  have zTA0 := blk_cell HTA_135.out 0
  have zTA1 := blk_cell HTA_135.out 1
  have lTA := blk_lt HTA_135.out
  have zTB0 := blk_cell HTB_136.out 0
  have zTB1 := blk_cell HTB_136.out 1
  have lTB := blk_lt HTB_136.out
  have yTB0 := blk_frozen HTB_136.out 0
  have yTB1 := blk_frozen HTB_136.out 1
  have dTBTA : w6.heap.size ≠ w4.heap.size := N_35.out.symm
  simp only [List.getElem?_toArray, List.getElem?_cons_zero, List.getElem?_cons_succ] at zTA0 zTA1 zTB0 zTB1
  go_wp2_with fail
  clear zTA0 zTA1 zTB0 zTB1 lTA lTB dTBTA yTB0 yTB1
  have HB_142 := Lib.hid (show Below w.heap.size w (w15.setCell ⟨w6.heap.size, 0, none⟩ (.slice Af3 cBury.length caf3)) from HB_141.out.setCell (p := ⟨w6.heap.size, 0, none⟩) G_36.out (.slice Af3 cBury.length caf3))
  have HRe30_143 := Lib.hid (Kd.R_set HRe30_137.out HTB_136.out (by decide) 0 (.slice Af3 cBury.length caf3))
  have HRe31_144 := Lib.hid (Kd.R_set HRe31_138.out HTB_136.out (by decide) 0 (.slice Af3 cBury.length caf3))
  have HRf30_145 := Lib.hid (Kd.R_set HRf30_139.out HTB_136.out (by decide) 0 (.slice Af3 cBury.length caf3))
  have HRf31_146 := Lib.hid (Kd.R_set HRf31_140.out HTB_136.out (by decide) 0 (.slice Af3 cBury.length caf3))
  have HK_147 := Lib.hid (show (w15.setCell ⟨w6.heap.size, 0, none⟩ (.slice Af3 cBury.length caf3)).heap[w.heap.size]? = _ from blk_far (p := ⟨w6.heap.size, 0, none⟩) HK_133.out (ne_type HK_133.out HTB_136.out (by decide)) (.slice Af3 cBury.length caf3))
  have HX_148 := Lib.hid (show (w15.setCell ⟨w6.heap.size, 0, none⟩ (.slice Af3 cBury.length caf3)).heap[w2.heap.size]? = _ from blk_far (p := ⟨w6.heap.size, 0, none⟩) HX_134.out (ne_type HX_134.out HTB_136.out (by decide)) (.slice Af3 cBury.length caf3))
  have HTA_149 := Lib.hid (show (w15.setCell ⟨w6.heap.size, 0, none⟩ (.slice Af3 cBury.length caf3)).heap[w4.heap.size]? = _ from blk_far (p := ⟨w6.heap.size, 0, none⟩) HTA_135.out (N_35.out) (.slice Af3 cBury.length caf3))
  have HTB_150 := Lib.hid (show (w15.setCell ⟨w6.heap.size, 0, none⟩ (.slice Af3 cBury.length caf3)).heap[w6.heap.size]? = some (.cells #[.slice Af3 cBury.length caf3, .slice Bf2 oRenew.length cbf2] 34 (0, 0)) from blk_put (cs := #[.slice Af2 cRenew.length caf2, .slice Bf2 oRenew.length cbf2]) HTB_136.out 0 (.slice Af3 cBury.length caf3) rfl)
  have HB_151 := Lib.hid (show Below w.heap.size w ((w15.setCell ⟨w6.heap.size, 0, none⟩ (.slice Af3 cBury.length caf3)).setCell ⟨w6.heap.size, 1, none⟩ (.slice Bf3 oBury.length cbf3)) from HB_142.out.setCell (p := ⟨w6.heap.size, 1, none⟩) G_36.out (.slice Bf3 oBury.length cbf3))
  have HRe30_152 := Lib.hid (Kd.R_set HRe30_143.out HTB_150.out (by decide) 1 (.slice Bf3 oBury.length cbf3))
  have HRe31_153 := Lib.hid (Kd.R_set HRe31_144.out HTB_150.out (by decide) 1 (.slice Bf3 oBury.length cbf3))
  have HRf30_154 := Lib.hid (Kd.R_set HRf30_145.out HTB_150.out (by decide) 1 (.slice Bf3 oBury.length cbf3))
  have HRf31_155 := Lib.hid (Kd.R_set HRf31_146.out HTB_150.out (by decide) 1 (.slice Bf3 oBury.length cbf3))
  have HK_156 := Lib.hid (show ((w15.setCell ⟨w6.heap.size, 0, none⟩ (.slice Af3 cBury.length caf3)).setCell ⟨w6.heap.size, 1, none⟩ (.slice Bf3 oBury.length cbf3)).heap[w.heap.size]? = _ from blk_far (p := ⟨w6.heap.size, 1, none⟩) HK_147.out (ne_type HK_147.out HTB_150.out (by decide)) (.slice Bf3 oBury.length cbf3))
  have HX_157 := Lib.hid (show ((w15.setCell ⟨w6.heap.size, 0, none⟩ (.slice Af3 cBury.length caf3)).setCell ⟨w6.heap.size, 1, none⟩ (.slice Bf3 oBury.length cbf3)).heap[w2.heap.size]? = _ from blk_far (p := ⟨w6.heap.size, 1, none⟩) HX_148.out (ne_type HX_148.out HTB_150.out (by decide)) (.slice Bf3 oBury.length cbf3))
  have HTA_158 := Lib.hid (show ((w15.setCell ⟨w6.heap.size, 0, none⟩ (.slice Af3 cBury.length caf3)).setCell ⟨w6.heap.size, 1, none⟩ (.slice Bf3 oBury.length cbf3)).heap[w4.heap.size]? = _ from blk_far (p := ⟨w6.heap.size, 1, none⟩) HTA_149.out (N_35.out) (.slice Bf3 oBury.length cbf3))
  have HTB_159 := Lib.hid (show ((w15.setCell ⟨w6.heap.size, 0, none⟩ (.slice Af3 cBury.length caf3)).setCell ⟨w6.heap.size, 1, none⟩ (.slice Bf3 oBury.length cbf3)).heap[w6.heap.size]? = some (.cells #[.slice Af3 cBury.length caf3, .slice Bf3 oBury.length cbf3] 34 (0, 0)) from blk_put (cs := #[.slice Af3 cBury.length caf3, .slice Bf2 oRenew.length cbf2]) HTB_150.out 1 (.slice Bf3 oBury.length cbf3) rfl)
  generalize ((w15.setCell ⟨w6.heap.size, 0, none⟩ (.slice Af3 cBury.length caf3)).setCell ⟨w6.heap.size, 1, none⟩ (.slice Bf3 oBury.length cbf3)) = w16 at *
  refine (same_any cBury oBury NBury.out.1 NBury.out.2 _ _ _ _ _ _ _ _ _ _ _ _ _ HRe30_152.out HRe31_153.out HRf30_154.out HRf31_155.out).mono ?_
  rintro e w17 ⟨rfl, hb⟩
  have HK_160 := Lib.hid ((hb.block _ (blk_lt HK_156.out)).trans HK_156.out)
  have HX_161 := Lib.hid ((hb.block _ (blk_lt HX_157.out)).trans HX_157.out)
  have HTA_162 := Lib.hid ((hb.block _ (blk_lt HTA_158.out)).trans HTA_158.out)
  have HTB_163 := Lib.hid ((hb.block _ (blk_lt HTB_159.out)).trans HTB_159.out)
  have HRe30_164 := Lib.hid (Kd.R_below HRe30_152.out hb)
  have HRe31_165 := Lib.hid (Kd.R_below HRe31_153.out hb)
  have HRf30_166 := Lib.hid (Kd.R_below HRf30_154.out hb)
  have HRf31_167 := Lib.hid (Kd.R_below HRf31_155.out hb)
  have HB_168 := Lib.hid (below_next0 HB_151.out hb)
  clear hb
  have zX0 := blk_cell HX_161.out 0
  have zX1 := blk_cell HX_161.out 1
  have zX2 := blk_cell HX_161.out 2
  have zX3 := blk_cell HX_161.out 3
  have zX4 := blk_cell HX_161.out 4
  have zX5 := blk_cell HX_161.out 5
  have zX6 := blk_cell HX_161.out 6
  have zX7 := blk_cell HX_161.out 7
  have zX8 := blk_cell HX_161.out 8
  have lX := blk_lt HX_161.out
  simp only [List.getElem?_toArray, List.getElem?_cons_zero, List.getElem?_cons_succ] at zX0 zX1 zX2 zX3 zX4 zX5 zX6 zX7 zX8
  go_wp2_with fail
  clear zX0 zX1 zX2 zX3 zX4 zX5 zX6 zX7 zX8 lX
  refine (ESweep.out _).mono ?_
  rintro e w18 ⟨v0, v1, rfl, hR0, hR1, hb⟩
  obtain ⟨Ae4, cae4, rfl⟩ := Kd.R_slice hR0
  obtain ⟨Be4, cbe4, rfl⟩ := Kd.R_slice hR1
  have HK_169 := Lib.hid ((hb.block _ (blk_lt HK_160.out)).trans HK_160.out)
  have HX_170 := Lib.hid ((hb.block _ (blk_lt HX_161.out)).trans HX_161.out)
  have HTA_171 := Lib.hid ((hb.block _ (blk_lt HTA_162.out)).trans HTA_162.out)
  have HTB_172 := Lib.hid ((hb.block _ (blk_lt HTB_163.out)).trans HTB_163.out)
  have HRe40_173 := Lib.hid (Kd.R_lower hR0 HB_168.out.size)
  have HRe41_174 := Lib.hid (Kd.R_lower hR1 HB_168.out.size)
  have HB_175 := Lib.hid (below_next0 HB_168.out hb)
  clear hb hR0 hR1
  have zK0 := blk_cell HK_169.out 0
  have zK1 := blk_cell HK_169.out 1
  have zK2 := blk_cell HK_169.out 2
  have zK3 := blk_cell HK_169.out 3
  have zK4 := blk_cell HK_169.out 4
  have zK5 := blk_cell HK_169.out 5
  have zK6 := blk_cell HK_169.out 6
  have zK7 := blk_cell HK_169.out 7
  have zK8 := blk_cell HK_169.out 8
  have lK := blk_lt HK_169.out
  have zTA0 := blk_cell HTA_171.out 0
  have zTA1 := blk_cell HTA_171.out 1
  have lTA := blk_lt HTA_171.out
  have yTA0 := blk_frozen HTA_171.out 0
  have yTA1 := blk_frozen HTA_171.out 1
  have dTAK : w4.heap.size ≠ w.heap.size := ne_type HTA_171.out HK_169.out (by decide)
  simp only [List.getElem?_toArray, List.getElem?_cons_zero, List.getElem?_cons_succ] at zK0 zK1 zK2 zK3 zK4 zK5 zK6 zK7 zK8 zTA0 zTA1
  go_wp2_with fail
  clear zK0 zK1 zK2 zK3 zK4 zK5 zK6 zK7 zK8 zTA0 zTA1 lK lTA dTAK yTA0 yTA1
  have HB_176 := Lib.hid (show Below w.heap.size w (w18.setCell ⟨w4.heap.size, 0, none⟩ (.slice Ae4 cSweep.length cae4)) from HB_175.out.setCell (p := ⟨w4.heap.size, 0, none⟩) G_20.out (.slice Ae4 cSweep.length cae4))
  have HRe40_177 := Lib.hid (Kd.R_set HRe40_173.out HTA_171.out (by decide) 0 (.slice Ae4 cSweep.length cae4))
  have HRe41_178 := Lib.hid (Kd.R_set HRe41_174.out HTA_171.out (by decide) 0 (.slice Ae4 cSweep.length cae4))
  have HK_179 := Lib.hid (show (w18.setCell ⟨w4.heap.size, 0, none⟩ (.slice Ae4 cSweep.length cae4)).heap[w.heap.size]? = _ from blk_far (p := ⟨w4.heap.size, 0, none⟩) HK_169.out (ne_type HK_169.out HTA_171.out (by decide)) (.slice Ae4 cSweep.length cae4))
  have HX_180 := Lib.hid (show (w18.setCell ⟨w4.heap.size, 0, none⟩ (.slice Ae4 cSweep.length cae4)).heap[w2.heap.size]? = _ from blk_far (p := ⟨w4.heap.size, 0, none⟩) HX_170.out (ne_type HX_170.out HTA_171.out (by decide)) (.slice Ae4 cSweep.length cae4))
  have HTB_181 := Lib.hid (show (w18.setCell ⟨w4.heap.size, 0, none⟩ (.slice Ae4 cSweep.length cae4)).heap[w6.heap.size]? = _ from blk_far (p := ⟨w4.heap.size, 0, none⟩) HTB_172.out (N_35.out.symm) (.slice Ae4 cSweep.length cae4))
  have HTA_182 := Lib.hid (show (w18.setCell ⟨w4.heap.size, 0, none⟩ (.slice Ae4 cSweep.length cae4)).heap[w4.heap.size]? = some (.cells #[.slice Ae4 cSweep.length cae4, .slice Be3 oBury.length cbe3] 34 (0, 0)) from blk_put (cs := #[.slice Ae3 cBury.length cae3, .slice Be3 oBury.length cbe3]) HTA_171.out 0 (.slice Ae4 cSweep.length cae4) rfl)
  have HB_183 := Lib.hid (show Below w.heap.size w ((w18.setCell ⟨w4.heap.size, 0, none⟩ (.slice Ae4 cSweep.length cae4)).setCell ⟨w4.heap.size, 1, none⟩ (.slice Be4 oSweep.length cbe4)) from HB_176.out.setCell (p := ⟨w4.heap.size, 1, none⟩) G_20.out (.slice Be4 oSweep.length cbe4))
  have HRe40_184 := Lib.hid (Kd.R_set HRe40_177.out HTA_182.out (by decide) 1 (.slice Be4 oSweep.length cbe4))
  have HRe41_185 := Lib.hid (Kd.R_set HRe41_178.out HTA_182.out (by decide) 1 (.slice Be4 oSweep.length cbe4))
  have HK_186 := Lib.hid (show ((w18.setCell ⟨w4.heap.size, 0, none⟩ (.slice Ae4 cSweep.length cae4)).setCell ⟨w4.heap.size, 1, none⟩ (.slice Be4 oSweep.length cbe4)).heap[w.heap.size]? = _ from blk_far (p := ⟨w4.heap.size, 1, none⟩) HK_179.out (ne_type HK_179.out HTA_182.out (by decide)) (.slice Be4 oSweep.length cbe4))
  have HX_187 := Lib.hid (show ((w18.setCell ⟨w4.heap.size, 0, none⟩ (.slice Ae4 cSweep.length cae4)).setCell ⟨w4.heap.size, 1, none⟩ (.slice Be4 oSweep.length cbe4)).heap[w2.heap.size]? = _ from blk_far (p := ⟨w4.heap.size, 1, none⟩) HX_180.out (ne_type HX_180.out HTA_182.out (by decide)) (.slice Be4 oSweep.length cbe4))
  have HTB_188 := Lib.hid (show ((w18.setCell ⟨w4.heap.size, 0, none⟩ (.slice Ae4 cSweep.length cae4)).setCell ⟨w4.heap.size, 1, none⟩ (.slice Be4 oSweep.length cbe4)).heap[w6.heap.size]? = _ from blk_far (p := ⟨w4.heap.size, 1, none⟩) HTB_181.out (N_35.out.symm) (.slice Be4 oSweep.length cbe4))
  have HTA_189 := Lib.hid (show ((w18.setCell ⟨w4.heap.size, 0, none⟩ (.slice Ae4 cSweep.length cae4)).setCell ⟨w4.heap.size, 1, none⟩ (.slice Be4 oSweep.length cbe4)).heap[w4.heap.size]? = some (.cells #[.slice Ae4 cSweep.length cae4, .slice Be4 oSweep.length cbe4] 34 (0, 0)) from blk_put (cs := #[.slice Ae4 cSweep.length cae4, .slice Be3 oBury.length cbe3]) HTA_182.out 1 (.slice Be4 oSweep.length cbe4) rfl)
  generalize ((w18.setCell ⟨w4.heap.size, 0, none⟩ (.slice Ae4 cSweep.length cae4)).setCell ⟨w4.heap.size, 1, none⟩ (.slice Be4 oSweep.length cbe4)) = w19 at *
  refine (FSweep.out _).mono ?_
  rintro e w20 ⟨v0, v1, rfl, hR0, hR1, hb⟩
  obtain ⟨Af4, caf4, rfl⟩ := Kd.R_slice hR0
  obtain ⟨Bf4, cbf4, rfl⟩ := Kd.R_slice hR1
  have HK_190 := Lib.hid ((hb.block _ (blk_lt HK_186.out)).trans HK_186.out)
  have HX_191 := Lib.hid ((hb.block _ (blk_lt HX_187.out)).trans HX_187.out)
  have HTA_192 := Lib.hid ((hb.block _ (blk_lt HTA_189.out)).trans HTA_189.out)
  have HTB_193 := Lib.hid ((hb.block _ (blk_lt HTB_188.out)).trans HTB_188.out)
  have HRe40_194 := Lib.hid (Kd.R_below HRe40_184.out hb)
  have HRe41_195 := Lib.hid (Kd.R_below HRe41_185.out hb)
  have HRf40_196 := Lib.hid (Kd.R_lower hR0 HB_183.out.size)
  have HRf41_197 := Lib.hid (Kd.R_lower hR1 HB_183.out.size)
  have HB_198 := Lib.hid (below_next0 HB_183.out hb)
  clear hb hR0 hR1
  have zTA0 := blk_cell HTA_192.out 0
  have zTA1 := blk_cell HTA_192.out 1
  have lTA := blk_lt HTA_192.out
  have zTB0 := blk_cell HTB_193.out 0
  have zTB1 := blk_cell HTB_193.out 1
  have lTB := blk_lt HTB_193.out
  have yTB0 := blk_frozen HTB_193.out 0
  have yTB1 := blk_frozen HTB_193.out 1
  have dTBTA : w6.heap.size ≠ w4.heap.size := N_35.out.symm
  simp only [List.getElem?_toArray, List.getElem?_cons_zero, List.getElem?_cons_succ] at zTA0 zTA1 zTB0 zTB1
  go_wp2_with fail
  clear zTA0 zTA1 zTB0 zTB1 lTA lTB dTBTA yTB0 yTB1
  have HB_199 := Lib.hid (show Below w.heap.size w (w20.setCell ⟨w6.heap.size, 0, none⟩ (.slice Af4 cSweep.length caf4)) from HB_198.out.setCell (p := ⟨w6.heap.size, 0, none⟩) G_36.out (.slice Af4 cSweep.length caf4))
  have HRe40_200 := Lib.hid (Kd.R_set HRe40_194.out HTB_193.out (by decide) 0 (.slice Af4 cSweep.length caf4))
  have HRe41_201 := Lib.hid (Kd.R_set HRe41_195.out HTB_193.out (by decide) 0 (.slice Af4 cSweep.length caf4))
  have HRf40_202 := Lib.hid (Kd.R_set HRf40_196.out HTB_193.out (by decide) 0 (.slice Af4 cSweep.length caf4))
  have HRf41_203 := Lib.hid (Kd.R_set HRf41_197.out HTB_193.out (by decide) 0 (.slice Af4 cSweep.length caf4))
  have HK_204 := Lib.hid (show (w20.setCell ⟨w6.heap.size, 0, none⟩ (.slice Af4 cSweep.length caf4)).heap[w.heap.size]? = _ from blk_far (p := ⟨w6.heap.size, 0, none⟩) HK_190.out (ne_type HK_190.out HTB_193.out (by decide)) (.slice Af4 cSweep.length caf4))
  have HX_205 := Lib.hid (show (w20.setCell ⟨w6.heap.size, 0, none⟩ (.slice Af4 cSweep.length caf4)).heap[w2.heap.size]? = _ from blk_far (p := ⟨w6.heap.size, 0, none⟩) HX_191.out (ne_type HX_191.out HTB_193.out (by decide)) (.slice Af4 cSweep.length caf4))
  have HTA_206 := Lib.hid (show (w20.setCell ⟨w6.heap.size, 0, none⟩ (.slice Af4 cSweep.length caf4)).heap[w4.heap.size]? = _ from blk_far (p := ⟨w6.heap.size, 0, none⟩) HTA_192.out (N_35.out) (.slice Af4 cSweep.length caf4))
  have HTB_207 := Lib.hid (show (w20.setCell ⟨w6.heap.size, 0, none⟩ (.slice Af4 cSweep.length caf4)).heap[w6.heap.size]? = some (.cells #[.slice Af4 cSweep.length caf4, .slice Bf3 oBury.length cbf3] 34 (0, 0)) from blk_put (cs := #[.slice Af3 cBury.length caf3, .slice Bf3 oBury.length cbf3]) HTB_193.out 0 (.slice Af4 cSweep.length caf4) rfl)
  have HB_208 := Lib.hid (show Below w.heap.size w ((w20.setCell ⟨w6.heap.size, 0, none⟩ (.slice Af4 cSweep.length caf4)).setCell ⟨w6.heap.size, 1, none⟩ (.slice Bf4 oSweep.length cbf4)) from HB_199.out.setCell (p := ⟨w6.heap.size, 1, none⟩) G_36.out (.slice Bf4 oSweep.length cbf4))
  have HRe40_209 := Lib.hid (Kd.R_set HRe40_200.out HTB_207.out (by decide) 1 (.slice Bf4 oSweep.length cbf4))
  have HRe41_210 := Lib.hid (Kd.R_set HRe41_201.out HTB_207.out (by decide) 1 (.slice Bf4 oSweep.length cbf4))
  have HRf40_211 := Lib.hid (Kd.R_set HRf40_202.out HTB_207.out (by decide) 1 (.slice Bf4 oSweep.length cbf4))
  have HRf41_212 := Lib.hid (Kd.R_set HRf41_203.out HTB_207.out (by decide) 1 (.slice Bf4 oSweep.length cbf4))
  have HK_213 := Lib.hid (show ((w20.setCell ⟨w6.heap.size, 0, none⟩ (.slice Af4 cSweep.length caf4)).setCell ⟨w6.heap.size, 1, none⟩ (.slice Bf4 oSweep.length cbf4)).heap[w.heap.size]? = _ from blk_far (p := ⟨w6.heap.size, 1, none⟩) HK_204.out (ne_type HK_204.out HTB_207.out (by decide)) (.slice Bf4 oSweep.length cbf4))
  have HX_214 := Lib.hid (show ((w20.setCell ⟨w6.heap.size, 0, none⟩ (.slice Af4 cSweep.length caf4)).setCell ⟨w6.heap.size, 1, none⟩ (.slice Bf4 oSweep.length cbf4)).heap[w2.heap.size]? = _ from blk_far (p := ⟨w6.heap.size, 1, none⟩) HX_205.out (ne_type HX_205.out HTB_207.out (by decide)) (.slice Bf4 oSweep.length cbf4))
  have HTA_215 := Lib.hid (show ((w20.setCell ⟨w6.heap.size, 0, none⟩ (.slice Af4 cSweep.length caf4)).setCell ⟨w6.heap.size, 1, none⟩ (.slice Bf4 oSweep.length cbf4)).heap[w4.heap.size]? = _ from blk_far (p := ⟨w6.heap.size, 1, none⟩) HTA_206.out (N_35.out) (.slice Bf4 oSweep.length cbf4))
  have HTB_216 := Lib.hid (show ((w20.setCell ⟨w6.heap.size, 0, none⟩ (.slice Af4 cSweep.length caf4)).setCell ⟨w6.heap.size, 1, none⟩ (.slice Bf4 oSweep.length cbf4)).heap[w6.heap.size]? = some (.cells #[.slice Af4 cSweep.length caf4, .slice Bf4 oSweep.length cbf4] 34 (0, 0)) from blk_put (cs := #[.slice Af4 cSweep.length caf4, .slice Bf3 oBury.length cbf3]) HTB_207.out 1 (.slice Bf4 oSweep.length cbf4) rfl)
  generalize ((w20.setCell ⟨w6.heap.size, 0, none⟩ (.slice Af4 cSweep.length caf4)).setCell ⟨w6.heap.size, 1, none⟩ (.slice Bf4 oSweep.length cbf4)) = w21 at *
  refine (same_any cSweep oSweep NSweep.out.1 NSweep.out.2 _ _ _ _ _ _ _ _ _ _ _ _ _ HRe40_209.out HRe41_210.out HRf40_211.out HRf41_212.out).mono ?_
  rintro e w22 ⟨rfl, hb⟩
  have HK_217 := Lib.hid ((hb.block _ (blk_lt HK_213.out)).trans HK_213.out)
  have HX_218 := Lib.hid ((hb.block _ (blk_lt HX_214.out)).trans HX_214.out)
  have HTA_219 := Lib.hid ((hb.block _ (blk_lt HTA_215.out)).trans HTA_215.out)
  have HTB_220 := Lib.hid ((hb.block _ (blk_lt HTB_216.out)).trans HTB_216.out)
  have HRe40_221 := Lib.hid (Kd.R_below HRe40_209.out hb)
  have HRe41_222 := Lib.hid (Kd.R_below HRe41_210.out hb)
  have HRf40_223 := Lib.hid (Kd.R_below HRf40_211.out hb)
  have HRf41_224 := Lib.hid (Kd.R_below HRf41_212.out hb)
  have HB_225 := Lib.hid (below_next0 HB_208.out hb)
  clear hb
  go_wp2_with fail
  refine (eawake_any _).mono ?_
  rintro e w23 ⟨rfl, hb⟩
  have HK_226 := Lib.hid ((hb.block _ (blk_lt HK_217.out)).trans HK_217.out)
  have HX_227 := Lib.hid ((hb.block _ (blk_lt HX_218.out)).trans HX_218.out)
  have HTA_228 := Lib.hid ((hb.block _ (blk_lt HTA_219.out)).trans HTA_219.out)
  have HTB_229 := Lib.hid ((hb.block _ (blk_lt HTB_220.out)).trans HTB_220.out)
  have HRe40_230 := Lib.hid (Kd.R_below HRe40_221.out hb)
  have HRe41_231 := Lib.hid (Kd.R_below HRe41_222.out hb)
  have HRf40_232 := Lib.hid (Kd.R_below HRf40_223.out hb)
  have HRf41_233 := Lib.hid (Kd.R_below HRf41_224.out hb)
  have HB_234 := Lib.hid (below_next0 HB_225.out hb)
  clear hb
  go_wp2
  go_ret
  exact ⟨by first | rfl | (simp; done), HB_234.out⟩
 ·
  rw [hl] at h4
  have H4 := Lib.hid h4
  clear h4 hl
  go_enter Try.func3, Try.ntmps3
  go_wp2_with fail
  have G_1 := Lib.hid (show w.heap.size ≤ w.heap.size from by have q := (Below.refl w.heap.size w).size; (try simp at q); omega)
  have HB_2 := Lib.hid (show Below w.heap.size w (w.alloc (.cells #[.string rep, .int .i64 ep, .int .i64 tm, .bool gone, .bool there, .int .i64 mod, .int .i64 live, .int .i64 eps, .int .i64 tmod] 27)) from below_alloc (Below.refl w.heap.size w) (.cells #[.string rep, .int .i64 ep, .int .i64 tm, .bool gone, .bool there, .int .i64 mod, .int .i64 live, .int .i64 eps, .int .i64 tmod] 27))
  have HK_3 := Lib.hid (show (w.alloc (.cells #[.string rep, .int .i64 ep, .int .i64 tm, .bool gone, .bool there, .int .i64 mod, .int .i64 live, .int .i64 eps, .int .i64 tmod] 27)).heap[w.heap.size]? = some (.cells #[.string rep, .int .i64 ep, .int .i64 tm, .bool gone, .bool there, .int .i64 mod, .int .i64 live, .int .i64 eps, .int .i64 tmod] 27 (0, 0)) from heap_alloc_new w (.cells #[.string rep, .int .i64 ep, .int .i64 tm, .bool gone, .bool there, .int .i64 mod, .int .i64 live, .int .i64 eps, .int .i64 tmod] 27))
  have G_4 := Lib.hid (show w.heap.size ≤ w.heap.size + 1 from by have q := HB_2.out.size; (try simp at q); omega)
  have HB_5 := Lib.hid (show Below w.heap.size w ((w.alloc (.cells #[.string rep, .int .i64 ep, .int .i64 tm, .bool gone, .bool there, .int .i64 mod, .int .i64 live, .int .i64 eps, .int .i64 tmod] 27)).alloc (.cells #[.string rep, .string t, .string c, .string r] 9)) from below_alloc HB_2.out (.cells #[.string rep, .string t, .string c, .string r] 9))
  have HK_6 := Lib.hid (show ((w.alloc (.cells #[.string rep, .int .i64 ep, .int .i64 tm, .bool gone, .bool there, .int .i64 mod, .int .i64 live, .int .i64 eps, .int .i64 tmod] 27)).alloc (.cells #[.string rep, .string t, .string c, .string r] 9)).heap[w.heap.size]? = _ from blk_alloc HK_3.out (.cells #[.string rep, .string t, .string c, .string r] 9))
  have HL_7 := Lib.hid (show ((w.alloc (.cells #[.string rep, .int .i64 ep, .int .i64 tm, .bool gone, .bool there, .int .i64 mod, .int .i64 live, .int .i64 eps, .int .i64 tmod] 27)).alloc (.cells #[.string rep, .string t, .string c, .string r] 9)).heap[w.heap.size + 1]? = some (.cells #[.string rep, .string t, .string c, .string r] 9 (0, 0)) from heap_alloc_at (w.alloc (.cells #[.string rep, .int .i64 ep, .int .i64 tm, .bool gone, .bool there, .int .i64 mod, .int .i64 live, .int .i64 eps, .int .i64 tmod] 27)) (.cells #[.string rep, .string t, .string c, .string r] 9) (n := w.heap.size + 1) (by simp))
  generalize ((w.alloc (.cells #[.string rep, .int .i64 ep, .int .i64 tm, .bool gone, .bool there, .int .i64 mod, .int .i64 live, .int .i64 eps, .int .i64 tmod] 27)).alloc (.cells #[.string rep, .string t, .string c, .string r] 9)) = w1 at *
  refine (H4.out _ _ HL_7.out).mono ?_
  rintro e w2 ⟨rfl, hb⟩
  have HK_8 := Lib.hid ((hb.block _ (blk_lt HK_6.out)).trans HK_6.out)
  have HL_9 := Lib.hid ((hb.block _ (blk_lt HL_7.out)).trans HL_7.out)
  have HB_10 := Lib.hid (below_next0 HB_5.out hb)
  clear hb
  go_wp2_with fail
  refine (eawake_any _).mono ?_
  rintro e w3 ⟨rfl, hb⟩
  have HK_11 := Lib.hid ((hb.block _ (blk_lt HK_8.out)).trans HK_8.out)
  have HB_12 := Lib.hid (below_next0 HB_10.out hb)
  clear hb
  go_wp2
  go_ret
  exact ⟨by first | rfl | (simp; done), HB_12.out⟩
theorem ElectPlans_walk (cs0 : Array Value) (x0 : (ByteArray × Int × Int × Bool) × Bool × Int × (Int × Int) × Int) (t c r : ByteArray) (now lim : Int) (w : World) (hK0 : OP.kKnown.K w x0 cs0.toList)
  (ok0 : (OP.small x0.1.1 ∧ OP.wf64 x0.1.2.1 ∧ OP.wf64 x0.1.2.2.1 ∧ True) ∧ True ∧ OP.wf64 x0.2.2.1 ∧ (OP.wf64 x0.2.2.2.1.1 ∧ OP.wf64 x0.2.2.2.1.2) ∧ OP.wf64 x0.2.2.2.2) (ht : t.size ≤ 140737488351232) (hc : c.size ≤ 140737488351232) (hr : r.size ≤ 140737488351232)
  (hn : (Lit.int .i64 now).wf = true) (hl : (Lit.int .i64 lim).wf = true) :
  Calls Try.prog 3 #[.agg cs0, .string t, .string c, .string r, .int .i64 now, .int .i64 lim] w fun e w' => e = .returned (.bool true) ∧ Below w.heap.size w w' := by
 rw [OP.known_cells hK0]
 exact ElectPlans_core _ _ _ _ _ _ _ _ _ t c r now lim w
end Go.Proofs.Ytobanhbjkomieaa.RP
