import Derived.Test.YtobanhbjkomieaaTMSb
import Derived.Test.YtobanhbjkomieaaTVSb
namespace Go.Proofs.Ytobanhbjkomieaa.TA
open Go Go.RowKit Go.Proofs.Ytobanhbjkomieaa.KP Go.Proofs.YtobanhbjkomieaaW.PrintWords Go.Proofs.YtobanhbjkomieaaW.PrintLast Go.Proofs.YtobanhbjkomieaaW.PrintMore
open Go.Proofs.Ytobanhbjkomieaa.RP (wTake wSkip wOne wpAnyH_cast below_next0)
set_option linter.unusedSimpArgs false
set_option linter.unusedVariables false
set_option maxHeartbeats 2000000 in
set_option maxRecDepth 100000 in
theorem op_a (key val : ByteArray) (tb : Nat) (t : AT) (m : Md) (ad : Option Addr) (c : Nat) (w : World) (hT : At w tb t m ad c) (h1 : 1 ≤ m.rev) (hl : m.row.length ≤ 200000000) (hg : getL key m.row = none) :
    Calls Try.prog 118 #[.pointer (some ⟨tb, 0, none⟩), .agg #[.bool true, .string key, .string val]] w fun e w' => e = .returned (.bool false) ∧ At w' tb t m ad c ∧ Kb tb w w' := by
  have hg' := fun W hW => get_any t key W hW hT.srt
  rw [hT.row] at hg'
  rw [show (getL key m.row).isSome = false from by rw [hg]; rfl] at hg'
  obtain ⟨y, hy⟩ : ∃ y, getD key m.row = y := ⟨_, rfl⟩
  rw [hy] at hg'
  have HY := Lib.hid hy
  have HG := Lib.hid hg'
  have HL := Lib.hid hg
  have HT := Lib.hid hT
  clear hg' hg hT hy
  go_enter Try.func118, Try.ntmps118
  go_wp2_with fail
  have Bw := Lib.hid (show Below w.heap.size w (w.alloc (.cells #[.bool true, .string key, .string val] 85)) from below_alloc (Below.refl _ _) (.cells #[.bool true, .string key, .string val] 85))
  have HP1 := Lib.hid (heap_alloc_new w (.cells #[.bool true, .string key, .string val] 85))
  have HT1 := Lib.hid (HT.out.below Bw.out)
  have HB1 := Lib.hid (HT1.out.blk)
  generalize w.alloc (.cells #[.bool true, .string key, .string val] 85) = w1 at *
  have hSB := Lib.hid (show ∀ W, Below w1.heap.size w1 W → (fun W => W.cell? ⟨tb, 0, none⟩ = some (.pointer t.adr) ∧ W.cell? ⟨tb, 1, none⟩ = some (.int .i64 (m.row.length : Int)) ∧ W.cell? ⟨tb, 2, none⟩ = some (.int .i64 m.rev) ∧ W.cell? ⟨tb, 3, none⟩ = some (.int .i64 m.low) ∧ W.cell? ⟨tb, 4, none⟩ = some (.slice ad m.hap.length c) ∧ W.cell? ⟨w.heap.size, 0, none⟩ = some (.bool true) ∧ W.cell? ⟨w.heap.size, 1, none⟩ = some (.string key) ∧ W.cell? ⟨w.heap.size, 2, none⟩ = some (.string val)) W from fun W hW => ⟨(hW.cell (p := ⟨tb, 0, none⟩) (blk_lt HB1.out)).trans ((blk_cell HB1.out 0).trans rfl), (hW.cell (p := ⟨tb, 1, none⟩) (blk_lt HB1.out)).trans ((blk_cell HB1.out 1).trans rfl), (hW.cell (p := ⟨tb, 2, none⟩) (blk_lt HB1.out)).trans ((blk_cell HB1.out 2).trans rfl), (hW.cell (p := ⟨tb, 3, none⟩) (blk_lt HB1.out)).trans ((blk_cell HB1.out 3).trans rfl), (hW.cell (p := ⟨tb, 4, none⟩) (blk_lt HB1.out)).trans ((blk_cell HB1.out 4).trans rfl), (hW.cell (p := ⟨w.heap.size, 0, none⟩) (blk_lt HP1.out)).trans ((blk_cell HP1.out 0).trans rfl), (hW.cell (p := ⟨w.heap.size, 1, none⟩) (blk_lt HP1.out)).trans ((blk_cell HP1.out 1).trans rfl), (hW.cell (p := ⟨w.heap.size, 2, none⟩) (blk_lt HP1.out)).trans ((blk_cell HP1.out 2).trans rfl)⟩)
  have hB0 := Lib.hid (Below.refl w1.heap.size w1)
  apply cutXW (fun X W => w1.heap.size ≤ X ∧ Below w1.heap.size w1 W ∧ W.heap[X]? = some (.cells #[.string y.key, .string y.val, .int .i64 y.made, .int .i64 y.mod] 62 (0, 0)))
  · intro REST
    have REST' := Lib.hid REST
    clear REST
    have hB1 := Lib.hid (show Below w1.heap.size w1 w1.drew from below_drew hB0.out)
    refine wp_region_noPanic ?_
    refine wp_region_held_drew (S := fun W => W.cell? ⟨tb, 0, none⟩ = some (.pointer t.adr) ∧ W.cell? ⟨tb, 1, none⟩ = some (.int .i64 (m.row.length : Int)) ∧ W.cell? ⟨tb, 2, none⟩ = some (.int .i64 m.rev) ∧ W.cell? ⟨tb, 3, none⟩ = some (.int .i64 m.low) ∧ W.cell? ⟨tb, 4, none⟩ = some (.slice ad m.hap.length c) ∧ W.cell? ⟨w.heap.size, 0, none⟩ = some (.bool true) ∧ W.cell? ⟨w.heap.size, 1, none⟩ = some (.string key) ∧ W.cell? ⟨w.heap.size, 2, none⟩ = some (.string val)) (by kernel_rfl) (hSB.out _ hB1.out) (fun hHeld => ?_)
    refine wTake 0 ?_
    refine wTake 1 ?_
    refine wTake 2 ?_
    refine wTake 3 ?_
    refine wTake 4 ?_
    refine wTake 5 ?_
    try simp only [Act.put, List.setIfInBounds_toArray, List.set_cons_zero, List.set_cons_succ]
    refine wpAnyH_ready (rs := [6, 10]) (by kernel_rfl) (by simp) (AllReadyH.cons rfl (fun K hK => ?_) (AllReadyH.cons rfl (fun K hK => ?_) AllReadyH.nil))
    · go_simp
      refine (HG.out _ (AT.In.below hB1.out HT1.out.ins)).mono ?_
      rintro z x2 ⟨rfl, hb⟩
      have hB2 := Lib.hid (below_next0 hB1.out hb)
      clear hb
      go_wp2_with fail
      refine hK.out _ _ (hSB.out _ hB2.out) (fun hHeld => ?_)
      clear hK K
      try simp only [Act.put, List.setIfInBounds_toArray, List.set_cons_zero, List.set_cons_succ]
      refine wTake 7 ?_
      refine wTake 8 ?_
      refine wTake 9 ?_
      try simp only [Act.put, List.setIfInBounds_toArray, List.set_cons_zero, List.set_cons_succ]
      refine wpAnyH_ready (rs := [10]) (by kernel_rfl) (by simp) (AllReadyH.cons rfl (fun K hK => ?_) AllReadyH.nil)
      go_simp
      obtain ⟨X, hX⟩ : ∃ X, X = x2.heap.size := ⟨_, rfl⟩
      go_wp2_with fail
      have eX : x2.heap.size = X := hX.symm
      rw [eX]
      have lX : w1.heap.size ≤ X := by rw [hX]; exact hB2.out.size
      have hB3 := Lib.hid (show Below w1.heap.size w1 (x2.alloc (.cells #[.string ⟨#[]⟩, .string ⟨#[]⟩, .int .i64 0, .int .i64 0] 62)) from below_alloc hB2.out (.cells #[.string ⟨#[]⟩, .string ⟨#[]⟩, .int .i64 0, .int .i64 0] 62))
      have HX_3 := Lib.hid (show (x2.alloc (.cells #[.string ⟨#[]⟩, .string ⟨#[]⟩, .int .i64 0, .int .i64 0] 62)).heap[X]? = some (.cells #[.string ⟨#[]⟩, .string ⟨#[]⟩, .int .i64 0, .int .i64 0] 62 (0, 0)) from hX ▸ heap_alloc_new x2 (.cells #[.string ⟨#[]⟩, .string ⟨#[]⟩, .int .i64 0, .int .i64 0] 62))
      clear eX hX
      generalize (x2.alloc (.cells #[.string ⟨#[]⟩, .string ⟨#[]⟩, .int .i64 0, .int .i64 0] 62)) = x3 at *
      refine hK.out _ _ (hSB.out _ hB3.out) (fun hHeld => ?_)
      clear hK K
      try simp only [Act.put, List.setIfInBounds_toArray, List.set_cons_zero, List.set_cons_succ]
      refine wpAnyH_ready (rs := [11]) (by kernel_rfl) (by simp) (AllReadyH.cons rfl (fun K hK => ?_) AllReadyH.nil)
      have z0 := blk_cell HX_3.out 0
      have y0 := blk_frozen HX_3.out 0
      have z1 := blk_cell HX_3.out 1
      have y1 := blk_frozen HX_3.out 1
      have z2 := blk_cell HX_3.out 2
      have y2 := blk_frozen HX_3.out 2
      have z3 := blk_cell HX_3.out 3
      have y3 := blk_frozen HX_3.out 3
      simp only [List.getElem?_toArray, List.getElem?_cons_zero, List.getElem?_cons_succ] at z0 z1 z2 z3
      go_simp
      clear z0 y0 z1 y1 z2 y2 z3 y3
      have hB4 := Lib.hid (show Below w1.heap.size w1 ((((x3.setCell ⟨X, 0, none⟩ (.string y.key)).setCell ⟨X, 1, none⟩ (.string y.val)).setCell ⟨X, 2, none⟩ (.int .i64 y.made)).setCell ⟨X, 3, none⟩ (.int .i64 y.mod)) from ((((hB3.out.setCell (p := ⟨X, 0, none⟩) lX (.string y.key)).setCell (p := ⟨X, 1, none⟩) lX (.string y.val)).setCell (p := ⟨X, 2, none⟩) lX (.int .i64 y.made)).setCell (p := ⟨X, 3, none⟩) lX (.int .i64 y.mod)))
      have HX_4 := Lib.hid (show ((((x3.setCell ⟨X, 0, none⟩ (.string y.key)).setCell ⟨X, 1, none⟩ (.string y.val)).setCell ⟨X, 2, none⟩ (.int .i64 y.made)).setCell ⟨X, 3, none⟩ (.int .i64 y.mod)).heap[X]? = some (.cells #[.string y.key, .string y.val, .int .i64 y.made, .int .i64 y.mod] 62 (0, 0)) from (blk_put (cs := #[.string y.key, .string y.val, .int .i64 y.made, .int .i64 0]) (blk_put (cs := #[.string y.key, .string y.val, .int .i64 0, .int .i64 0]) (blk_put (cs := #[.string y.key, .string ⟨#[]⟩, .int .i64 0, .int .i64 0]) (blk_put (cs := #[.string ⟨#[]⟩, .string ⟨#[]⟩, .int .i64 0, .int .i64 0]) HX_3.out 0 (.string y.key) rfl) 1 (.string y.val) rfl) 2 (.int .i64 y.made) rfl) 3 (.int .i64 y.mod) rfl))
      generalize ((((x3.setCell ⟨X, 0, none⟩ (.string y.key)).setCell ⟨X, 1, none⟩ (.string y.val)).setCell ⟨X, 2, none⟩ (.int .i64 y.made)).setCell ⟨X, 3, none⟩ (.int .i64 y.mod)) = x4 at *
      refine hK.out _ _ (hSB.out _ hB4.out) (fun hHeld => ?_)
      clear hK K
      try simp only [Act.put, List.setIfInBounds_toArray, List.set_cons_zero, List.set_cons_succ]
      refine wTake 12 ?_
      try simp only [Act.put, List.setIfInBounds_toArray, List.set_cons_zero, List.set_cons_succ]
      refine wpAnyH_done (by kernel_rfl) ?_ _
      refine NoPanic.normal ?_
      exact REST'.out X x4 ⟨lX, hB4.out, HX_4.out⟩
    · go_simp
      obtain ⟨X, hX⟩ : ∃ X, X = w1.drew.heap.size := ⟨_, rfl⟩
      go_wp2_with fail
      have eX : w1.heap.size = X := hX.symm
      rw [eX]
      have lX : w1.heap.size ≤ X := by rw [hX]; exact hB1.out.size
      have hB2 := Lib.hid (show Below w1.heap.size w1 (w1.alloc (.cells #[.string ⟨#[]⟩, .string ⟨#[]⟩, .int .i64 0, .int .i64 0] 62)).drew from below_alloc hB1.out (.cells #[.string ⟨#[]⟩, .string ⟨#[]⟩, .int .i64 0, .int .i64 0] 62))
      have HX_2 := Lib.hid (show (w1.alloc (.cells #[.string ⟨#[]⟩, .string ⟨#[]⟩, .int .i64 0, .int .i64 0] 62)).drew.heap[X]? = some (.cells #[.string ⟨#[]⟩, .string ⟨#[]⟩, .int .i64 0, .int .i64 0] 62 (0, 0)) from hX ▸ heap_alloc_new w1.drew (.cells #[.string ⟨#[]⟩, .string ⟨#[]⟩, .int .i64 0, .int .i64 0] 62))
      clear eX hX
      generalize (w1.alloc (.cells #[.string ⟨#[]⟩, .string ⟨#[]⟩, .int .i64 0, .int .i64 0] 62)).drew = x2 at *
      refine hK.out _ _ (hSB.out _ hB2.out) (fun hHeld => ?_)
      clear hK K
      try simp only [Act.put, List.setIfInBounds_toArray, List.set_cons_zero, List.set_cons_succ]
      refine wpAnyH_ready (rs := [6]) (by kernel_rfl) (by simp) (AllReadyH.cons rfl (fun K hK => ?_) AllReadyH.nil)
      go_simp
      refine (HG.out _ (AT.In.below hB2.out HT1.out.ins)).mono ?_
      rintro z x3 ⟨rfl, hb⟩
      have hB3 := Lib.hid (below_next0 hB2.out hb)
      have HX_3 := Lib.hid ((hb.block _ (blk_lt HX_2.out)).trans HX_2.out)
      clear hb
      go_wp2_with fail
      refine hK.out _ _ (hSB.out _ hB3.out) (fun hHeld => ?_)
      clear hK K
      try simp only [Act.put, List.setIfInBounds_toArray, List.set_cons_zero, List.set_cons_succ]
      refine wTake 7 ?_
      refine wTake 8 ?_
      refine wTake 9 ?_
      try simp only [Act.put, List.setIfInBounds_toArray, List.set_cons_zero, List.set_cons_succ]
      refine wpAnyH_ready (rs := [11]) (by kernel_rfl) (by simp) (AllReadyH.cons rfl (fun K hK => ?_) AllReadyH.nil)
      have z0 := blk_cell HX_3.out 0
      have y0 := blk_frozen HX_3.out 0
      have z1 := blk_cell HX_3.out 1
      have y1 := blk_frozen HX_3.out 1
      have z2 := blk_cell HX_3.out 2
      have y2 := blk_frozen HX_3.out 2
      have z3 := blk_cell HX_3.out 3
      have y3 := blk_frozen HX_3.out 3
      simp only [List.getElem?_toArray, List.getElem?_cons_zero, List.getElem?_cons_succ] at z0 z1 z2 z3
      go_simp
      clear z0 y0 z1 y1 z2 y2 z3 y3
      have hB4 := Lib.hid (show Below w1.heap.size w1 ((((x3.setCell ⟨X, 0, none⟩ (.string y.key)).setCell ⟨X, 1, none⟩ (.string y.val)).setCell ⟨X, 2, none⟩ (.int .i64 y.made)).setCell ⟨X, 3, none⟩ (.int .i64 y.mod)) from ((((hB3.out.setCell (p := ⟨X, 0, none⟩) lX (.string y.key)).setCell (p := ⟨X, 1, none⟩) lX (.string y.val)).setCell (p := ⟨X, 2, none⟩) lX (.int .i64 y.made)).setCell (p := ⟨X, 3, none⟩) lX (.int .i64 y.mod)))
      have HX_4 := Lib.hid (show ((((x3.setCell ⟨X, 0, none⟩ (.string y.key)).setCell ⟨X, 1, none⟩ (.string y.val)).setCell ⟨X, 2, none⟩ (.int .i64 y.made)).setCell ⟨X, 3, none⟩ (.int .i64 y.mod)).heap[X]? = some (.cells #[.string y.key, .string y.val, .int .i64 y.made, .int .i64 y.mod] 62 (0, 0)) from (blk_put (cs := #[.string y.key, .string y.val, .int .i64 y.made, .int .i64 0]) (blk_put (cs := #[.string y.key, .string y.val, .int .i64 0, .int .i64 0]) (blk_put (cs := #[.string y.key, .string ⟨#[]⟩, .int .i64 0, .int .i64 0]) (blk_put (cs := #[.string ⟨#[]⟩, .string ⟨#[]⟩, .int .i64 0, .int .i64 0]) HX_3.out 0 (.string y.key) rfl) 1 (.string y.val) rfl) 2 (.int .i64 y.made) rfl) 3 (.int .i64 y.mod) rfl))
      generalize ((((x3.setCell ⟨X, 0, none⟩ (.string y.key)).setCell ⟨X, 1, none⟩ (.string y.val)).setCell ⟨X, 2, none⟩ (.int .i64 y.made)).setCell ⟨X, 3, none⟩ (.int .i64 y.mod)) = x4 at *
      refine hK.out _ _ (hSB.out _ hB4.out) (fun hHeld => ?_)
      clear hK K
      try simp only [Act.put, List.setIfInBounds_toArray, List.set_cons_zero, List.set_cons_succ]
      refine wTake 12 ?_
      try simp only [Act.put, List.setIfInBounds_toArray, List.set_cons_zero, List.set_cons_succ]
      refine wpAnyH_done (by kernel_rfl) ?_ _
      refine NoPanic.normal ?_
      exact REST'.out X x4 ⟨lX, hB4.out, HX_4.out⟩
  intro X w2 hf
  obtain ⟨lX, hb2, hX2⟩ := hf
  have HX2 := Lib.hid hX2
  have HB2 := Lib.hid ((hb2.block _ (blk_lt HB1.out)).trans HB1.out)
  have HP2 := Lib.hid ((hb2.block _ (blk_lt HP1.out)).trans HP1.out)
  have HK2 := Lib.hid (Kb.of_below (Bw.out.trans (hb2.mono Bw.out.size)) tb)
  have IT2 := Lib.hid (HT1.out.ins.below hb2)
  have LX := Lib.hid (Nat.le_trans Bw.out.size lX)
  clear hSB hB0 hX2 hb2 lX HT1 HB1 HP1 Bw HG
  try dsimp only
  have a0 := blk_cell HP2.out 0
  have a1 := blk_cell HP2.out 1
  have a2 := blk_cell HP2.out 2
  simp only [List.getElem?_toArray, List.getElem?_cons_zero, List.getElem?_cons_succ] at a0 a1 a2
  have al := blk_lt HP2.out
  go_wp2
  go_ret
  exact ⟨rfl, HT.out.remade HK2.out rfl HB2.out IT2.out HT.out.tall HT.out.row HT.out.ok, HK2.out⟩
set_option maxHeartbeats 2000000 in
set_option maxRecDepth 100000 in
theorem op_b (key val : ByteArray) (tb : Nat) (t : AT) (m : Md) (ad : Option Addr) (c : Nat) (w : World) (hT : At w tb t m ad c) (h1 : 1 ≤ m.rev) (hl : m.row.length ≤ 200000000) (z : Ent) (hg : getL key m.row = some z) :
    Calls Try.prog 118 #[.pointer (some ⟨tb, 0, none⟩), .agg #[.bool true, .string key, .string val]] w fun e w' => ∃ t', e = .returned (.bool true) ∧ At w' tb t' ⟨delL key m.row, m.rev, m.low, m.hap⟩ ad c ∧ Kb tb w w' := by
  have hn : ((m.row.length : Int) - 1) = ((delL key m.row).length : Int) := by
    have := del_length (k := key) hT.ok.srt
    rw [hg] at this
    simp only [Option.isSome_some, if_true] at this
    omega
  have HN := Lib.hid hn
  clear hn
  have hg' := fun W hW => get_any t key W hW hT.srt
  rw [hT.row] at hg'
  rw [show (getL key m.row).isSome = true from by rw [hg]; rfl] at hg'
  obtain ⟨y, hy⟩ : ∃ y, getD key m.row = y := ⟨_, rfl⟩
  rw [hy] at hg'
  have HY := Lib.hid hy
  have HG := Lib.hid hg'
  have HL := Lib.hid hg
  have HT := Lib.hid hT
  clear hg' hg hT hy
  go_enter Try.func118, Try.ntmps118
  go_wp2_with fail
  have Bw := Lib.hid (show Below w.heap.size w (w.alloc (.cells #[.bool true, .string key, .string val] 85)) from below_alloc (Below.refl _ _) (.cells #[.bool true, .string key, .string val] 85))
  have HP1 := Lib.hid (heap_alloc_new w (.cells #[.bool true, .string key, .string val] 85))
  have HT1 := Lib.hid (HT.out.below Bw.out)
  have HB1 := Lib.hid (HT1.out.blk)
  generalize w.alloc (.cells #[.bool true, .string key, .string val] 85) = w1 at *
  have hSB := Lib.hid (show ∀ W, Below w1.heap.size w1 W → (fun W => W.cell? ⟨tb, 0, none⟩ = some (.pointer t.adr) ∧ W.cell? ⟨tb, 1, none⟩ = some (.int .i64 (m.row.length : Int)) ∧ W.cell? ⟨tb, 2, none⟩ = some (.int .i64 m.rev) ∧ W.cell? ⟨tb, 3, none⟩ = some (.int .i64 m.low) ∧ W.cell? ⟨tb, 4, none⟩ = some (.slice ad m.hap.length c) ∧ W.cell? ⟨w.heap.size, 0, none⟩ = some (.bool true) ∧ W.cell? ⟨w.heap.size, 1, none⟩ = some (.string key) ∧ W.cell? ⟨w.heap.size, 2, none⟩ = some (.string val)) W from fun W hW => ⟨(hW.cell (p := ⟨tb, 0, none⟩) (blk_lt HB1.out)).trans ((blk_cell HB1.out 0).trans rfl), (hW.cell (p := ⟨tb, 1, none⟩) (blk_lt HB1.out)).trans ((blk_cell HB1.out 1).trans rfl), (hW.cell (p := ⟨tb, 2, none⟩) (blk_lt HB1.out)).trans ((blk_cell HB1.out 2).trans rfl), (hW.cell (p := ⟨tb, 3, none⟩) (blk_lt HB1.out)).trans ((blk_cell HB1.out 3).trans rfl), (hW.cell (p := ⟨tb, 4, none⟩) (blk_lt HB1.out)).trans ((blk_cell HB1.out 4).trans rfl), (hW.cell (p := ⟨w.heap.size, 0, none⟩) (blk_lt HP1.out)).trans ((blk_cell HP1.out 0).trans rfl), (hW.cell (p := ⟨w.heap.size, 1, none⟩) (blk_lt HP1.out)).trans ((blk_cell HP1.out 1).trans rfl), (hW.cell (p := ⟨w.heap.size, 2, none⟩) (blk_lt HP1.out)).trans ((blk_cell HP1.out 2).trans rfl)⟩)
  have hB0 := Lib.hid (Below.refl w1.heap.size w1)
  apply cutXW (fun X W => w1.heap.size ≤ X ∧ Below w1.heap.size w1 W ∧ W.heap[X]? = some (.cells #[.string y.key, .string y.val, .int .i64 y.made, .int .i64 y.mod] 62 (0, 0)))
  · intro REST
    have REST' := Lib.hid REST
    clear REST
    have hB1 := Lib.hid (show Below w1.heap.size w1 w1.drew from below_drew hB0.out)
    refine wp_region_noPanic ?_
    refine wp_region_held_drew (S := fun W => W.cell? ⟨tb, 0, none⟩ = some (.pointer t.adr) ∧ W.cell? ⟨tb, 1, none⟩ = some (.int .i64 (m.row.length : Int)) ∧ W.cell? ⟨tb, 2, none⟩ = some (.int .i64 m.rev) ∧ W.cell? ⟨tb, 3, none⟩ = some (.int .i64 m.low) ∧ W.cell? ⟨tb, 4, none⟩ = some (.slice ad m.hap.length c) ∧ W.cell? ⟨w.heap.size, 0, none⟩ = some (.bool true) ∧ W.cell? ⟨w.heap.size, 1, none⟩ = some (.string key) ∧ W.cell? ⟨w.heap.size, 2, none⟩ = some (.string val)) (by kernel_rfl) (hSB.out _ hB1.out) (fun hHeld => ?_)
    refine wTake 0 ?_
    refine wTake 1 ?_
    refine wTake 2 ?_
    refine wTake 3 ?_
    refine wTake 4 ?_
    refine wTake 5 ?_
    try simp only [Act.put, List.setIfInBounds_toArray, List.set_cons_zero, List.set_cons_succ]
    refine wpAnyH_ready (rs := [6, 10]) (by kernel_rfl) (by simp) (AllReadyH.cons rfl (fun K hK => ?_) (AllReadyH.cons rfl (fun K hK => ?_) AllReadyH.nil))
    · go_simp
      refine (HG.out _ (AT.In.below hB1.out HT1.out.ins)).mono ?_
      rintro z x2 ⟨rfl, hb⟩
      have hB2 := Lib.hid (below_next0 hB1.out hb)
      clear hb
      go_wp2_with fail
      refine hK.out _ _ (hSB.out _ hB2.out) (fun hHeld => ?_)
      clear hK K
      try simp only [Act.put, List.setIfInBounds_toArray, List.set_cons_zero, List.set_cons_succ]
      refine wTake 7 ?_
      refine wTake 8 ?_
      refine wTake 9 ?_
      try simp only [Act.put, List.setIfInBounds_toArray, List.set_cons_zero, List.set_cons_succ]
      refine wpAnyH_ready (rs := [10]) (by kernel_rfl) (by simp) (AllReadyH.cons rfl (fun K hK => ?_) AllReadyH.nil)
      go_simp
      obtain ⟨X, hX⟩ : ∃ X, X = x2.heap.size := ⟨_, rfl⟩
      go_wp2_with fail
      have eX : x2.heap.size = X := hX.symm
      rw [eX]
      have lX : w1.heap.size ≤ X := by rw [hX]; exact hB2.out.size
      have hB3 := Lib.hid (show Below w1.heap.size w1 (x2.alloc (.cells #[.string ⟨#[]⟩, .string ⟨#[]⟩, .int .i64 0, .int .i64 0] 62)) from below_alloc hB2.out (.cells #[.string ⟨#[]⟩, .string ⟨#[]⟩, .int .i64 0, .int .i64 0] 62))
      have HX_3 := Lib.hid (show (x2.alloc (.cells #[.string ⟨#[]⟩, .string ⟨#[]⟩, .int .i64 0, .int .i64 0] 62)).heap[X]? = some (.cells #[.string ⟨#[]⟩, .string ⟨#[]⟩, .int .i64 0, .int .i64 0] 62 (0, 0)) from hX ▸ heap_alloc_new x2 (.cells #[.string ⟨#[]⟩, .string ⟨#[]⟩, .int .i64 0, .int .i64 0] 62))
      clear eX hX
      generalize (x2.alloc (.cells #[.string ⟨#[]⟩, .string ⟨#[]⟩, .int .i64 0, .int .i64 0] 62)) = x3 at *
      refine hK.out _ _ (hSB.out _ hB3.out) (fun hHeld => ?_)
      clear hK K
      try simp only [Act.put, List.setIfInBounds_toArray, List.set_cons_zero, List.set_cons_succ]
      refine wpAnyH_ready (rs := [11]) (by kernel_rfl) (by simp) (AllReadyH.cons rfl (fun K hK => ?_) AllReadyH.nil)
      have z0 := blk_cell HX_3.out 0
      have y0 := blk_frozen HX_3.out 0
      have z1 := blk_cell HX_3.out 1
      have y1 := blk_frozen HX_3.out 1
      have z2 := blk_cell HX_3.out 2
      have y2 := blk_frozen HX_3.out 2
      have z3 := blk_cell HX_3.out 3
      have y3 := blk_frozen HX_3.out 3
      simp only [List.getElem?_toArray, List.getElem?_cons_zero, List.getElem?_cons_succ] at z0 z1 z2 z3
      go_simp
      clear z0 y0 z1 y1 z2 y2 z3 y3
      have hB4 := Lib.hid (show Below w1.heap.size w1 ((((x3.setCell ⟨X, 0, none⟩ (.string y.key)).setCell ⟨X, 1, none⟩ (.string y.val)).setCell ⟨X, 2, none⟩ (.int .i64 y.made)).setCell ⟨X, 3, none⟩ (.int .i64 y.mod)) from ((((hB3.out.setCell (p := ⟨X, 0, none⟩) lX (.string y.key)).setCell (p := ⟨X, 1, none⟩) lX (.string y.val)).setCell (p := ⟨X, 2, none⟩) lX (.int .i64 y.made)).setCell (p := ⟨X, 3, none⟩) lX (.int .i64 y.mod)))
      have HX_4 := Lib.hid (show ((((x3.setCell ⟨X, 0, none⟩ (.string y.key)).setCell ⟨X, 1, none⟩ (.string y.val)).setCell ⟨X, 2, none⟩ (.int .i64 y.made)).setCell ⟨X, 3, none⟩ (.int .i64 y.mod)).heap[X]? = some (.cells #[.string y.key, .string y.val, .int .i64 y.made, .int .i64 y.mod] 62 (0, 0)) from (blk_put (cs := #[.string y.key, .string y.val, .int .i64 y.made, .int .i64 0]) (blk_put (cs := #[.string y.key, .string y.val, .int .i64 0, .int .i64 0]) (blk_put (cs := #[.string y.key, .string ⟨#[]⟩, .int .i64 0, .int .i64 0]) (blk_put (cs := #[.string ⟨#[]⟩, .string ⟨#[]⟩, .int .i64 0, .int .i64 0]) HX_3.out 0 (.string y.key) rfl) 1 (.string y.val) rfl) 2 (.int .i64 y.made) rfl) 3 (.int .i64 y.mod) rfl))
      generalize ((((x3.setCell ⟨X, 0, none⟩ (.string y.key)).setCell ⟨X, 1, none⟩ (.string y.val)).setCell ⟨X, 2, none⟩ (.int .i64 y.made)).setCell ⟨X, 3, none⟩ (.int .i64 y.mod)) = x4 at *
      refine hK.out _ _ (hSB.out _ hB4.out) (fun hHeld => ?_)
      clear hK K
      try simp only [Act.put, List.setIfInBounds_toArray, List.set_cons_zero, List.set_cons_succ]
      refine wTake 12 ?_
      try simp only [Act.put, List.setIfInBounds_toArray, List.set_cons_zero, List.set_cons_succ]
      refine wpAnyH_done (by kernel_rfl) ?_ _
      refine NoPanic.normal ?_
      exact REST'.out X x4 ⟨lX, hB4.out, HX_4.out⟩
    · go_simp
      obtain ⟨X, hX⟩ : ∃ X, X = w1.drew.heap.size := ⟨_, rfl⟩
      go_wp2_with fail
      have eX : w1.heap.size = X := hX.symm
      rw [eX]
      have lX : w1.heap.size ≤ X := by rw [hX]; exact hB1.out.size
      have hB2 := Lib.hid (show Below w1.heap.size w1 (w1.alloc (.cells #[.string ⟨#[]⟩, .string ⟨#[]⟩, .int .i64 0, .int .i64 0] 62)).drew from below_alloc hB1.out (.cells #[.string ⟨#[]⟩, .string ⟨#[]⟩, .int .i64 0, .int .i64 0] 62))
      have HX_2 := Lib.hid (show (w1.alloc (.cells #[.string ⟨#[]⟩, .string ⟨#[]⟩, .int .i64 0, .int .i64 0] 62)).drew.heap[X]? = some (.cells #[.string ⟨#[]⟩, .string ⟨#[]⟩, .int .i64 0, .int .i64 0] 62 (0, 0)) from hX ▸ heap_alloc_new w1.drew (.cells #[.string ⟨#[]⟩, .string ⟨#[]⟩, .int .i64 0, .int .i64 0] 62))
      clear eX hX
      generalize (w1.alloc (.cells #[.string ⟨#[]⟩, .string ⟨#[]⟩, .int .i64 0, .int .i64 0] 62)).drew = x2 at *
      refine hK.out _ _ (hSB.out _ hB2.out) (fun hHeld => ?_)
      clear hK K
      try simp only [Act.put, List.setIfInBounds_toArray, List.set_cons_zero, List.set_cons_succ]
      refine wpAnyH_ready (rs := [6]) (by kernel_rfl) (by simp) (AllReadyH.cons rfl (fun K hK => ?_) AllReadyH.nil)
      go_simp
      refine (HG.out _ (AT.In.below hB2.out HT1.out.ins)).mono ?_
      rintro z x3 ⟨rfl, hb⟩
      have hB3 := Lib.hid (below_next0 hB2.out hb)
      have HX_3 := Lib.hid ((hb.block _ (blk_lt HX_2.out)).trans HX_2.out)
      clear hb
      go_wp2_with fail
      refine hK.out _ _ (hSB.out _ hB3.out) (fun hHeld => ?_)
      clear hK K
      try simp only [Act.put, List.setIfInBounds_toArray, List.set_cons_zero, List.set_cons_succ]
      refine wTake 7 ?_
      refine wTake 8 ?_
      refine wTake 9 ?_
      try simp only [Act.put, List.setIfInBounds_toArray, List.set_cons_zero, List.set_cons_succ]
      refine wpAnyH_ready (rs := [11]) (by kernel_rfl) (by simp) (AllReadyH.cons rfl (fun K hK => ?_) AllReadyH.nil)
      have z0 := blk_cell HX_3.out 0
      have y0 := blk_frozen HX_3.out 0
      have z1 := blk_cell HX_3.out 1
      have y1 := blk_frozen HX_3.out 1
      have z2 := blk_cell HX_3.out 2
      have y2 := blk_frozen HX_3.out 2
      have z3 := blk_cell HX_3.out 3
      have y3 := blk_frozen HX_3.out 3
      simp only [List.getElem?_toArray, List.getElem?_cons_zero, List.getElem?_cons_succ] at z0 z1 z2 z3
      go_simp
      clear z0 y0 z1 y1 z2 y2 z3 y3
      have hB4 := Lib.hid (show Below w1.heap.size w1 ((((x3.setCell ⟨X, 0, none⟩ (.string y.key)).setCell ⟨X, 1, none⟩ (.string y.val)).setCell ⟨X, 2, none⟩ (.int .i64 y.made)).setCell ⟨X, 3, none⟩ (.int .i64 y.mod)) from ((((hB3.out.setCell (p := ⟨X, 0, none⟩) lX (.string y.key)).setCell (p := ⟨X, 1, none⟩) lX (.string y.val)).setCell (p := ⟨X, 2, none⟩) lX (.int .i64 y.made)).setCell (p := ⟨X, 3, none⟩) lX (.int .i64 y.mod)))
      have HX_4 := Lib.hid (show ((((x3.setCell ⟨X, 0, none⟩ (.string y.key)).setCell ⟨X, 1, none⟩ (.string y.val)).setCell ⟨X, 2, none⟩ (.int .i64 y.made)).setCell ⟨X, 3, none⟩ (.int .i64 y.mod)).heap[X]? = some (.cells #[.string y.key, .string y.val, .int .i64 y.made, .int .i64 y.mod] 62 (0, 0)) from (blk_put (cs := #[.string y.key, .string y.val, .int .i64 y.made, .int .i64 0]) (blk_put (cs := #[.string y.key, .string y.val, .int .i64 0, .int .i64 0]) (blk_put (cs := #[.string y.key, .string ⟨#[]⟩, .int .i64 0, .int .i64 0]) (blk_put (cs := #[.string ⟨#[]⟩, .string ⟨#[]⟩, .int .i64 0, .int .i64 0]) HX_3.out 0 (.string y.key) rfl) 1 (.string y.val) rfl) 2 (.int .i64 y.made) rfl) 3 (.int .i64 y.mod) rfl))
      generalize ((((x3.setCell ⟨X, 0, none⟩ (.string y.key)).setCell ⟨X, 1, none⟩ (.string y.val)).setCell ⟨X, 2, none⟩ (.int .i64 y.made)).setCell ⟨X, 3, none⟩ (.int .i64 y.mod)) = x4 at *
      refine hK.out _ _ (hSB.out _ hB4.out) (fun hHeld => ?_)
      clear hK K
      try simp only [Act.put, List.setIfInBounds_toArray, List.set_cons_zero, List.set_cons_succ]
      refine wTake 12 ?_
      try simp only [Act.put, List.setIfInBounds_toArray, List.set_cons_zero, List.set_cons_succ]
      refine wpAnyH_done (by kernel_rfl) ?_ _
      refine NoPanic.normal ?_
      exact REST'.out X x4 ⟨lX, hB4.out, HX_4.out⟩
  intro X w2 hf
  obtain ⟨lX, hb2, hX2⟩ := hf
  have HX2 := Lib.hid hX2
  have HB2 := Lib.hid ((hb2.block _ (blk_lt HB1.out)).trans HB1.out)
  have HP2 := Lib.hid ((hb2.block _ (blk_lt HP1.out)).trans HP1.out)
  have HK2 := Lib.hid (Kb.of_below (Bw.out.trans (hb2.mono Bw.out.size)) tb)
  have IT2 := Lib.hid (HT1.out.ins.below hb2)
  have LX := Lib.hid (Nat.le_trans Bw.out.size lX)
  clear hSB hB0 hX2 hb2 lX HT1 HB1 HP1 Bw HG
  try dsimp only
  have a0 := blk_cell HP2.out 0
  have a1 := blk_cell HP2.out 1
  have a2 := blk_cell HP2.out 2
  simp only [List.getElem?_toArray, List.getElem?_cons_zero, List.getElem?_cons_succ] at a0 a1 a2
  have al := blk_lt HP2.out
  go_wp2_with fail
  clear a0 a1 a2 al
  have hSB := Lib.hid (show ∀ W, Below w2.heap.size w2 W → (fun W => W.cell? ⟨w.heap.size, 0, none⟩ = some (.bool true) ∧ W.cell? ⟨w.heap.size, 1, none⟩ = some (.string key) ∧ W.cell? ⟨w.heap.size, 2, none⟩ = some (.string val)) W from fun W hW => ⟨(hW.cell (p := ⟨w.heap.size, 0, none⟩) (blk_lt HP2.out)).trans ((blk_cell HP2.out 0).trans rfl), (hW.cell (p := ⟨w.heap.size, 1, none⟩) (blk_lt HP2.out)).trans ((blk_cell HP2.out 1).trans rfl), (hW.cell (p := ⟨w.heap.size, 2, none⟩) (blk_lt HP2.out)).trans ((blk_cell HP2.out 2).trans rfl)⟩)
  have hB0 := Lib.hid (Below.refl w2.heap.size w2)
  have hB1 := Lib.hid (show Below w2.heap.size w2 w2.drew from below_drew hB0.out)
  refine wp_region_noPanic ?_
  refine wp_region_held_drew (S := fun W => W.cell? ⟨w.heap.size, 0, none⟩ = some (.bool true) ∧ W.cell? ⟨w.heap.size, 1, none⟩ = some (.string key) ∧ W.cell? ⟨w.heap.size, 2, none⟩ = some (.string val)) (by kernel_rfl) (hSB.out _ hB1.out) (fun hHeld => ?_)
  refine wTake 0 ?_
  refine wTake 1 ?_
  refine wTake 2 ?_
  refine wTake 3 ?_
  refine wTake 5 ?_
  refine wTake 6 ?_
  try simp only [Act.put, List.setIfInBounds_toArray, List.set_cons_zero, List.set_cons_succ]
  refine wpAnyH_ready (rs := [4]) (by kernel_rfl) (by simp) (AllReadyH.cons rfl (fun K hK => ?_) AllReadyH.nil)
  have zz := (blk_cell ((hB1.out.block _ (blk_lt HB2.out)).trans HB2.out) 0).trans rfl
  go_simp
  clear zz
  refine hK.out _ _ (hSB.out _ hB1.out) (fun hHeld => ?_)
  clear hK K
  try simp only [Act.put, List.setIfInBounds_toArray, List.set_cons_zero, List.set_cons_succ]
  refine wpAnyH_ready (rs := [7]) (by kernel_rfl) (by simp) (AllReadyH.cons rfl (fun K hK => ?_) AllReadyH.nil)
  go_simp
  refine (drop_any t key _ (AT.In.below hB1.out IT2.out) HT.out.tall HT.out.srt (by rw [HT.out.row]; omega)).mono ?_
  rintro z x2 ⟨t1, rfl, i1, tl1, row1, hb⟩
  have hB2 := Lib.hid (below_next0 hB1.out hb)
  have It1_2 := Lib.hid i1
  have T1 := Lib.hid tl1
  have R1 := Lib.hid row1
  clear tl1 row1
  clear hb i1
  go_wp2_with fail
  refine hK.out _ _ (hSB.out _ hB2.out) (fun hHeld => ?_)
  clear hK K
  try simp only [Act.put, List.setIfInBounds_toArray, List.set_cons_zero, List.set_cons_succ]
  refine wTake 8 ?_
  refine wTake 9 ?_
  try simp only [Act.put, List.setIfInBounds_toArray, List.set_cons_zero, List.set_cons_succ]
  refine wpAnyH_ready (rs := [10]) (by kernel_rfl) (by simp) (AllReadyH.cons rfl (fun K hK => ?_) AllReadyH.nil)
  have zb := ((hB2.out.block _ (blk_lt HB2.out)).trans HB2.out)
  have zf := blk_frozen zb 0
  have zz0 := (blk_cell zb 0).trans rfl
  have zz1 := (blk_cell zb 1).trans rfl
  have zz2 := (blk_cell zb 2).trans rfl
  have zz3 := (blk_cell zb 3).trans rfl
  have zz4 := (blk_cell zb 4).trans rfl
  go_simp
  clear zf zz0 zz1 zz2 zz3 zz4
  have Hw3 := Lib.hid (show (x2.setCell ⟨tb, 0, none⟩ (.pointer t1.adr)).heap[tb]? = some (.cells #[.pointer t1.adr, .int .i64 (m.row.length : Int), .int .i64 m.rev, .int .i64 m.low, .slice ad m.hap.length c] 166 (0, 0)) from blk_put (cs := #[.pointer t.adr, .int .i64 (m.row.length : Int), .int .i64 m.rev, .int .i64 m.low, .slice ad m.hap.length c]) zb 0 (.pointer t1.adr) rfl)
  have Kw3 := Lib.hid (show Kb tb w (x2.setCell ⟨tb, 0, none⟩ (.pointer t1.adr)) from (HK2.out.then_below hB2.out).set 0 (.pointer t1.adr))
  have Jw3 := Lib.hid (show Kb tb x2 (x2.setCell ⟨tb, 0, none⟩ (.pointer t1.adr)) from (Kb.refl tb x2).set 0 (.pointer t1.adr))
  have hs' : (fun W => W.cell? ⟨w.heap.size, 0, none⟩ = some (.bool true) ∧ W.cell? ⟨w.heap.size, 1, none⟩ = some (.string key) ∧ W.cell? ⟨w.heap.size, 2, none⟩ = some (.string val)) (x2.setCell ⟨tb, 0, none⟩ (.pointer t1.adr)) := ⟨(blk_cell (Jw3.out.blk ((hB2.out.block _ (blk_lt HP2.out)).trans HP2.out) (far_type zb ((hB2.out.block _ (blk_lt HP2.out)).trans HP2.out) (by decide))) 0).trans rfl, (blk_cell (Jw3.out.blk ((hB2.out.block _ (blk_lt HP2.out)).trans HP2.out) (far_type zb ((hB2.out.block _ (blk_lt HP2.out)).trans HP2.out) (by decide))) 1).trans rfl, (blk_cell (Jw3.out.blk ((hB2.out.block _ (blk_lt HP2.out)).trans HP2.out) (far_type zb ((hB2.out.block _ (blk_lt HP2.out)).trans HP2.out) (by decide))) 2).trans rfl⟩
  have It1_w3 := Lib.hid (AT.In.kb zb (by decide) Jw3.out It1_2.out)
  clear zb
  generalize (x2.setCell ⟨tb, 0, none⟩ (.pointer t1.adr)) = w3 at *
  refine hK.out _ _ hs' (fun hHeld => ?_)
  clear hK K
  try simp only [Act.put, List.setIfInBounds_toArray, List.set_cons_zero, List.set_cons_succ]
  refine wpAnyH_done (by kernel_rfl) ?_ _
  refine NoPanic.normal ?_
  clear hHeld
  have a0 := blk_cell Hw3.out 0
  have a1 := blk_cell Hw3.out 1
  have a2 := blk_cell Hw3.out 2
  have a3 := blk_cell Hw3.out 3
  have a4 := blk_cell Hw3.out 4
  have af0 := blk_frozen Hw3.out 0
  have af1 := blk_frozen Hw3.out 1
  have af2 := blk_frozen Hw3.out 2
  have af3 := blk_frozen Hw3.out 3
  have af4 := blk_frozen Hw3.out 4
  simp only [List.getElem?_toArray, List.getElem?_cons_zero, List.getElem?_cons_succ] at a0 a1 a2 a3 a4
  have al := blk_lt Hw3.out
  go_wp2
  go_ret
  refine ⟨t1, rfl, HT.out.remade (Kw3.out.set 1 _) rfl ?_ (It1_w3.out.kb Hw3.out (by decide) ((Kb.refl tb w3).set 1 _)) T1.out (R1.out.trans (by rw [HT.out.row])) (ok_row HT.out.ok (del_srt HT.out.ok.srt) (fun x hx => HT.out.ok.made x (del_mem hx))), Kw3.out.set 1 _⟩
  show (w3.setCell ⟨tb, 1, none⟩ (.int .i64 ((m.row.length : Int) - 1))).heap[tb]? = some (.cells #[.pointer t1.adr, .int .i64 ((delL key m.row).length : Int), .int .i64 m.rev, .int .i64 m.low, .slice ad m.hap.length c] 166 (0, 0))
  rw [← HN.out]
  exact blk_put (cs := #[.pointer t1.adr, .int .i64 (m.row.length : Int), .int .i64 m.rev, .int .i64 m.low, .slice ad m.hap.length c]) Hw3.out 1 (.int .i64 ((m.row.length : Int) - 1)) rfl
set_option maxHeartbeats 2000000 in
set_option maxRecDepth 100000 in
theorem op_c (key val : ByteArray) (tb : Nat) (t : AT) (m : Md) (ad : Option Addr) (c : Nat) (w : World) (hT : At w tb t m ad c) (h1 : 1 ≤ m.rev) (hl : m.row.length ≤ 200000000) (hg : getL key m.row = none) :
    Calls Try.prog 118 #[.pointer (some ⟨tb, 0, none⟩), .agg #[.bool false, .string key, .string val]] w fun e w' => ∃ t', e = .returned (.bool true) ∧ At w' tb t' ⟨insL ⟨key, val, m.rev, m.rev⟩ m.row, m.rev, m.low, m.hap⟩ ad c ∧ Kb tb w w' := by
  have hn : ((m.row.length : Int) + 1) = ((insL ⟨key, val, m.rev, m.rev⟩ m.row).length : Int) := by
    have := ins_length (x := ⟨key, val, m.rev, m.rev⟩) hT.ok.srt
    rw [show getL (Ent.mk key val m.rev m.rev).key m.row = none from hg] at this
    simp only [Option.isSome_none, Bool.false_eq_true, if_false] at this
    omega
  have hg' := fun W hW => get_any t key W hW hT.srt
  rw [hT.row] at hg'
  rw [show (getL key m.row).isSome = false from by rw [hg]; rfl] at hg'
  obtain ⟨y, hy⟩ : ∃ y, getD key m.row = y := ⟨_, rfl⟩
  rw [hy] at hg'
  have HY := Lib.hid hy
  have HG := Lib.hid hg'
  have HL := Lib.hid hg
  have HT := Lib.hid hT
  clear hg' hg hT hy
  go_enter Try.func118, Try.ntmps118
  go_wp2_with fail
  have Bw := Lib.hid (show Below w.heap.size w (w.alloc (.cells #[.bool false, .string key, .string val] 85)) from below_alloc (Below.refl _ _) (.cells #[.bool false, .string key, .string val] 85))
  have HP1 := Lib.hid (heap_alloc_new w (.cells #[.bool false, .string key, .string val] 85))
  have HT1 := Lib.hid (HT.out.below Bw.out)
  have HB1 := Lib.hid (HT1.out.blk)
  generalize w.alloc (.cells #[.bool false, .string key, .string val] 85) = w1 at *
  have hSB := Lib.hid (show ∀ W, Below w1.heap.size w1 W → (fun W => W.cell? ⟨tb, 0, none⟩ = some (.pointer t.adr) ∧ W.cell? ⟨tb, 1, none⟩ = some (.int .i64 (m.row.length : Int)) ∧ W.cell? ⟨tb, 2, none⟩ = some (.int .i64 m.rev) ∧ W.cell? ⟨tb, 3, none⟩ = some (.int .i64 m.low) ∧ W.cell? ⟨tb, 4, none⟩ = some (.slice ad m.hap.length c) ∧ W.cell? ⟨w.heap.size, 0, none⟩ = some (.bool false) ∧ W.cell? ⟨w.heap.size, 1, none⟩ = some (.string key) ∧ W.cell? ⟨w.heap.size, 2, none⟩ = some (.string val)) W from fun W hW => ⟨(hW.cell (p := ⟨tb, 0, none⟩) (blk_lt HB1.out)).trans ((blk_cell HB1.out 0).trans rfl), (hW.cell (p := ⟨tb, 1, none⟩) (blk_lt HB1.out)).trans ((blk_cell HB1.out 1).trans rfl), (hW.cell (p := ⟨tb, 2, none⟩) (blk_lt HB1.out)).trans ((blk_cell HB1.out 2).trans rfl), (hW.cell (p := ⟨tb, 3, none⟩) (blk_lt HB1.out)).trans ((blk_cell HB1.out 3).trans rfl), (hW.cell (p := ⟨tb, 4, none⟩) (blk_lt HB1.out)).trans ((blk_cell HB1.out 4).trans rfl), (hW.cell (p := ⟨w.heap.size, 0, none⟩) (blk_lt HP1.out)).trans ((blk_cell HP1.out 0).trans rfl), (hW.cell (p := ⟨w.heap.size, 1, none⟩) (blk_lt HP1.out)).trans ((blk_cell HP1.out 1).trans rfl), (hW.cell (p := ⟨w.heap.size, 2, none⟩) (blk_lt HP1.out)).trans ((blk_cell HP1.out 2).trans rfl)⟩)
  have hB0 := Lib.hid (Below.refl w1.heap.size w1)
  apply cutXW (fun X W => w1.heap.size ≤ X ∧ Below w1.heap.size w1 W ∧ W.heap[X]? = some (.cells #[.string y.key, .string y.val, .int .i64 y.made, .int .i64 y.mod] 62 (0, 0)))
  · intro REST
    have REST' := Lib.hid REST
    clear REST
    have hB1 := Lib.hid (show Below w1.heap.size w1 w1.drew from below_drew hB0.out)
    refine wp_region_noPanic ?_
    refine wp_region_held_drew (S := fun W => W.cell? ⟨tb, 0, none⟩ = some (.pointer t.adr) ∧ W.cell? ⟨tb, 1, none⟩ = some (.int .i64 (m.row.length : Int)) ∧ W.cell? ⟨tb, 2, none⟩ = some (.int .i64 m.rev) ∧ W.cell? ⟨tb, 3, none⟩ = some (.int .i64 m.low) ∧ W.cell? ⟨tb, 4, none⟩ = some (.slice ad m.hap.length c) ∧ W.cell? ⟨w.heap.size, 0, none⟩ = some (.bool false) ∧ W.cell? ⟨w.heap.size, 1, none⟩ = some (.string key) ∧ W.cell? ⟨w.heap.size, 2, none⟩ = some (.string val)) (by kernel_rfl) (hSB.out _ hB1.out) (fun hHeld => ?_)
    refine wTake 0 ?_
    refine wTake 1 ?_
    refine wTake 2 ?_
    refine wTake 3 ?_
    refine wTake 4 ?_
    refine wTake 5 ?_
    try simp only [Act.put, List.setIfInBounds_toArray, List.set_cons_zero, List.set_cons_succ]
    refine wpAnyH_ready (rs := [6, 10]) (by kernel_rfl) (by simp) (AllReadyH.cons rfl (fun K hK => ?_) (AllReadyH.cons rfl (fun K hK => ?_) AllReadyH.nil))
    · go_simp
      refine (HG.out _ (AT.In.below hB1.out HT1.out.ins)).mono ?_
      rintro z x2 ⟨rfl, hb⟩
      have hB2 := Lib.hid (below_next0 hB1.out hb)
      clear hb
      go_wp2_with fail
      refine hK.out _ _ (hSB.out _ hB2.out) (fun hHeld => ?_)
      clear hK K
      try simp only [Act.put, List.setIfInBounds_toArray, List.set_cons_zero, List.set_cons_succ]
      refine wTake 7 ?_
      refine wTake 8 ?_
      refine wTake 9 ?_
      try simp only [Act.put, List.setIfInBounds_toArray, List.set_cons_zero, List.set_cons_succ]
      refine wpAnyH_ready (rs := [10]) (by kernel_rfl) (by simp) (AllReadyH.cons rfl (fun K hK => ?_) AllReadyH.nil)
      go_simp
      obtain ⟨X, hX⟩ : ∃ X, X = x2.heap.size := ⟨_, rfl⟩
      go_wp2_with fail
      have eX : x2.heap.size = X := hX.symm
      rw [eX]
      have lX : w1.heap.size ≤ X := by rw [hX]; exact hB2.out.size
      have hB3 := Lib.hid (show Below w1.heap.size w1 (x2.alloc (.cells #[.string ⟨#[]⟩, .string ⟨#[]⟩, .int .i64 0, .int .i64 0] 62)) from below_alloc hB2.out (.cells #[.string ⟨#[]⟩, .string ⟨#[]⟩, .int .i64 0, .int .i64 0] 62))
      have HX_3 := Lib.hid (show (x2.alloc (.cells #[.string ⟨#[]⟩, .string ⟨#[]⟩, .int .i64 0, .int .i64 0] 62)).heap[X]? = some (.cells #[.string ⟨#[]⟩, .string ⟨#[]⟩, .int .i64 0, .int .i64 0] 62 (0, 0)) from hX ▸ heap_alloc_new x2 (.cells #[.string ⟨#[]⟩, .string ⟨#[]⟩, .int .i64 0, .int .i64 0] 62))
      clear eX hX
      generalize (x2.alloc (.cells #[.string ⟨#[]⟩, .string ⟨#[]⟩, .int .i64 0, .int .i64 0] 62)) = x3 at *
      refine hK.out _ _ (hSB.out _ hB3.out) (fun hHeld => ?_)
      clear hK K
      try simp only [Act.put, List.setIfInBounds_toArray, List.set_cons_zero, List.set_cons_succ]
      refine wpAnyH_ready (rs := [11]) (by kernel_rfl) (by simp) (AllReadyH.cons rfl (fun K hK => ?_) AllReadyH.nil)
      have z0 := blk_cell HX_3.out 0
      have y0 := blk_frozen HX_3.out 0
      have z1 := blk_cell HX_3.out 1
      have y1 := blk_frozen HX_3.out 1
      have z2 := blk_cell HX_3.out 2
      have y2 := blk_frozen HX_3.out 2
      have z3 := blk_cell HX_3.out 3
      have y3 := blk_frozen HX_3.out 3
      simp only [List.getElem?_toArray, List.getElem?_cons_zero, List.getElem?_cons_succ] at z0 z1 z2 z3
      go_simp
      clear z0 y0 z1 y1 z2 y2 z3 y3
      have hB4 := Lib.hid (show Below w1.heap.size w1 ((((x3.setCell ⟨X, 0, none⟩ (.string y.key)).setCell ⟨X, 1, none⟩ (.string y.val)).setCell ⟨X, 2, none⟩ (.int .i64 y.made)).setCell ⟨X, 3, none⟩ (.int .i64 y.mod)) from ((((hB3.out.setCell (p := ⟨X, 0, none⟩) lX (.string y.key)).setCell (p := ⟨X, 1, none⟩) lX (.string y.val)).setCell (p := ⟨X, 2, none⟩) lX (.int .i64 y.made)).setCell (p := ⟨X, 3, none⟩) lX (.int .i64 y.mod)))
      have HX_4 := Lib.hid (show ((((x3.setCell ⟨X, 0, none⟩ (.string y.key)).setCell ⟨X, 1, none⟩ (.string y.val)).setCell ⟨X, 2, none⟩ (.int .i64 y.made)).setCell ⟨X, 3, none⟩ (.int .i64 y.mod)).heap[X]? = some (.cells #[.string y.key, .string y.val, .int .i64 y.made, .int .i64 y.mod] 62 (0, 0)) from (blk_put (cs := #[.string y.key, .string y.val, .int .i64 y.made, .int .i64 0]) (blk_put (cs := #[.string y.key, .string y.val, .int .i64 0, .int .i64 0]) (blk_put (cs := #[.string y.key, .string ⟨#[]⟩, .int .i64 0, .int .i64 0]) (blk_put (cs := #[.string ⟨#[]⟩, .string ⟨#[]⟩, .int .i64 0, .int .i64 0]) HX_3.out 0 (.string y.key) rfl) 1 (.string y.val) rfl) 2 (.int .i64 y.made) rfl) 3 (.int .i64 y.mod) rfl))
      generalize ((((x3.setCell ⟨X, 0, none⟩ (.string y.key)).setCell ⟨X, 1, none⟩ (.string y.val)).setCell ⟨X, 2, none⟩ (.int .i64 y.made)).setCell ⟨X, 3, none⟩ (.int .i64 y.mod)) = x4 at *
      refine hK.out _ _ (hSB.out _ hB4.out) (fun hHeld => ?_)
      clear hK K
      try simp only [Act.put, List.setIfInBounds_toArray, List.set_cons_zero, List.set_cons_succ]
      refine wTake 12 ?_
      try simp only [Act.put, List.setIfInBounds_toArray, List.set_cons_zero, List.set_cons_succ]
      refine wpAnyH_done (by kernel_rfl) ?_ _
      refine NoPanic.normal ?_
      exact REST'.out X x4 ⟨lX, hB4.out, HX_4.out⟩
    · go_simp
      obtain ⟨X, hX⟩ : ∃ X, X = w1.drew.heap.size := ⟨_, rfl⟩
      go_wp2_with fail
      have eX : w1.heap.size = X := hX.symm
      rw [eX]
      have lX : w1.heap.size ≤ X := by rw [hX]; exact hB1.out.size
      have hB2 := Lib.hid (show Below w1.heap.size w1 (w1.alloc (.cells #[.string ⟨#[]⟩, .string ⟨#[]⟩, .int .i64 0, .int .i64 0] 62)).drew from below_alloc hB1.out (.cells #[.string ⟨#[]⟩, .string ⟨#[]⟩, .int .i64 0, .int .i64 0] 62))
      have HX_2 := Lib.hid (show (w1.alloc (.cells #[.string ⟨#[]⟩, .string ⟨#[]⟩, .int .i64 0, .int .i64 0] 62)).drew.heap[X]? = some (.cells #[.string ⟨#[]⟩, .string ⟨#[]⟩, .int .i64 0, .int .i64 0] 62 (0, 0)) from hX ▸ heap_alloc_new w1.drew (.cells #[.string ⟨#[]⟩, .string ⟨#[]⟩, .int .i64 0, .int .i64 0] 62))
      clear eX hX
      generalize (w1.alloc (.cells #[.string ⟨#[]⟩, .string ⟨#[]⟩, .int .i64 0, .int .i64 0] 62)).drew = x2 at *
      refine hK.out _ _ (hSB.out _ hB2.out) (fun hHeld => ?_)
      clear hK K
      try simp only [Act.put, List.setIfInBounds_toArray, List.set_cons_zero, List.set_cons_succ]
      refine wpAnyH_ready (rs := [6]) (by kernel_rfl) (by simp) (AllReadyH.cons rfl (fun K hK => ?_) AllReadyH.nil)
      go_simp
      refine (HG.out _ (AT.In.below hB2.out HT1.out.ins)).mono ?_
      rintro z x3 ⟨rfl, hb⟩
      have hB3 := Lib.hid (below_next0 hB2.out hb)
      have HX_3 := Lib.hid ((hb.block _ (blk_lt HX_2.out)).trans HX_2.out)
      clear hb
      go_wp2_with fail
      refine hK.out _ _ (hSB.out _ hB3.out) (fun hHeld => ?_)
      clear hK K
      try simp only [Act.put, List.setIfInBounds_toArray, List.set_cons_zero, List.set_cons_succ]
      refine wTake 7 ?_
      refine wTake 8 ?_
      refine wTake 9 ?_
      try simp only [Act.put, List.setIfInBounds_toArray, List.set_cons_zero, List.set_cons_succ]
      refine wpAnyH_ready (rs := [11]) (by kernel_rfl) (by simp) (AllReadyH.cons rfl (fun K hK => ?_) AllReadyH.nil)
      have z0 := blk_cell HX_3.out 0
      have y0 := blk_frozen HX_3.out 0
      have z1 := blk_cell HX_3.out 1
      have y1 := blk_frozen HX_3.out 1
      have z2 := blk_cell HX_3.out 2
      have y2 := blk_frozen HX_3.out 2
      have z3 := blk_cell HX_3.out 3
      have y3 := blk_frozen HX_3.out 3
      simp only [List.getElem?_toArray, List.getElem?_cons_zero, List.getElem?_cons_succ] at z0 z1 z2 z3
      go_simp
      clear z0 y0 z1 y1 z2 y2 z3 y3
      have hB4 := Lib.hid (show Below w1.heap.size w1 ((((x3.setCell ⟨X, 0, none⟩ (.string y.key)).setCell ⟨X, 1, none⟩ (.string y.val)).setCell ⟨X, 2, none⟩ (.int .i64 y.made)).setCell ⟨X, 3, none⟩ (.int .i64 y.mod)) from ((((hB3.out.setCell (p := ⟨X, 0, none⟩) lX (.string y.key)).setCell (p := ⟨X, 1, none⟩) lX (.string y.val)).setCell (p := ⟨X, 2, none⟩) lX (.int .i64 y.made)).setCell (p := ⟨X, 3, none⟩) lX (.int .i64 y.mod)))
      have HX_4 := Lib.hid (show ((((x3.setCell ⟨X, 0, none⟩ (.string y.key)).setCell ⟨X, 1, none⟩ (.string y.val)).setCell ⟨X, 2, none⟩ (.int .i64 y.made)).setCell ⟨X, 3, none⟩ (.int .i64 y.mod)).heap[X]? = some (.cells #[.string y.key, .string y.val, .int .i64 y.made, .int .i64 y.mod] 62 (0, 0)) from (blk_put (cs := #[.string y.key, .string y.val, .int .i64 y.made, .int .i64 0]) (blk_put (cs := #[.string y.key, .string y.val, .int .i64 0, .int .i64 0]) (blk_put (cs := #[.string y.key, .string ⟨#[]⟩, .int .i64 0, .int .i64 0]) (blk_put (cs := #[.string ⟨#[]⟩, .string ⟨#[]⟩, .int .i64 0, .int .i64 0]) HX_3.out 0 (.string y.key) rfl) 1 (.string y.val) rfl) 2 (.int .i64 y.made) rfl) 3 (.int .i64 y.mod) rfl))
      generalize ((((x3.setCell ⟨X, 0, none⟩ (.string y.key)).setCell ⟨X, 1, none⟩ (.string y.val)).setCell ⟨X, 2, none⟩ (.int .i64 y.made)).setCell ⟨X, 3, none⟩ (.int .i64 y.mod)) = x4 at *
      refine hK.out _ _ (hSB.out _ hB4.out) (fun hHeld => ?_)
      clear hK K
      try simp only [Act.put, List.setIfInBounds_toArray, List.set_cons_zero, List.set_cons_succ]
      refine wTake 12 ?_
      try simp only [Act.put, List.setIfInBounds_toArray, List.set_cons_zero, List.set_cons_succ]
      refine wpAnyH_done (by kernel_rfl) ?_ _
      refine NoPanic.normal ?_
      exact REST'.out X x4 ⟨lX, hB4.out, HX_4.out⟩
  intro X w2 hf
  obtain ⟨lX, hb2, hX2⟩ := hf
  have HX2 := Lib.hid hX2
  have HB2 := Lib.hid ((hb2.block _ (blk_lt HB1.out)).trans HB1.out)
  have HP2 := Lib.hid ((hb2.block _ (blk_lt HP1.out)).trans HP1.out)
  have HK2 := Lib.hid (Kb.of_below (Bw.out.trans (hb2.mono Bw.out.size)) tb)
  have IT2 := Lib.hid (HT1.out.ins.below hb2)
  have LX := Lib.hid (Nat.le_trans Bw.out.size lX)
  clear hSB hB0 hX2 hb2 lX HT1 HB1 HP1 Bw HG
  try dsimp only
  have HN := Lib.hid hn
  clear hn
  have a0 := blk_cell HP2.out 0
  have a1 := blk_cell HP2.out 1
  have a2 := blk_cell HP2.out 2
  simp only [List.getElem?_toArray, List.getElem?_cons_zero, List.getElem?_cons_succ] at a0 a1 a2
  have al := blk_lt HP2.out
  have b0 := blk_cell HX2.out 0
  have b1 := blk_cell HX2.out 1
  have b2 := blk_cell HX2.out 2
  have b3 := blk_cell HX2.out 3
  have bf0 := blk_frozen HX2.out 0
  have bf1 := blk_frozen HX2.out 1
  have bf2 := blk_frozen HX2.out 2
  have bf3 := blk_frozen HX2.out 3
  simp only [List.getElem?_toArray, List.getElem?_cons_zero, List.getElem?_cons_succ] at b0 b1 b2 b3
  have bl := blk_lt HX2.out
  have d0 := blk_cell HB2.out 0
  have d1 := blk_cell HB2.out 1
  have d2 := blk_cell HB2.out 2
  have d3 := blk_cell HB2.out 3
  have d4 := blk_cell HB2.out 4
  have df0 := blk_frozen HB2.out 0
  have df1 := blk_frozen HB2.out 1
  have df2 := blk_frozen HB2.out 2
  have df3 := blk_frozen HB2.out 3
  have df4 := blk_frozen HB2.out 4
  simp only [List.getElem?_toArray, List.getElem?_cons_zero, List.getElem?_cons_succ] at d0 d1 d2 d3 d4
  have dl := blk_lt HB2.out
  have nXT : X ≠ tb := far_type HB2.out HX2.out (by decide)
  have nTX : tb ≠ X := nXT.symm
  go_wp2_with fail
  clear a0 a1 a2 al
  clear b0 b1 b2 b3 bf0 bf1 bf2 bf3 bl
  clear d0 d1 d2 d3 d4 df0 df1 df2 df3 df4 dl
  have nPX : w.heap.size ≠ X := far_type HX2.out HP2.out (by decide)
  have nPT : w.heap.size ≠ tb := far_type HB2.out HP2.out (by decide)
  have HK3 := Lib.hid (show Kb tb w ((w2.setCell ⟨X, 2, none⟩ (.int .i64 m.rev)).setCell ⟨tb, 1, none⟩ (.int .i64 ((m.row.length : Int) + 1))) from (HK2.out.setNew (p := ⟨X, 2, none⟩) LX.out (.int .i64 m.rev)).set 1 (.int .i64 ((m.row.length : Int) + 1)))
  have HB3 := Lib.hid (show ((w2.setCell ⟨X, 2, none⟩ (.int .i64 m.rev)).setCell ⟨tb, 1, none⟩ (.int .i64 ((m.row.length : Int) + 1))).heap[tb]? = some (.cells #[.pointer t.adr, .int .i64 ((m.row.length : Int) + 1), .int .i64 m.rev, .int .i64 m.low, .slice ad m.hap.length c] 166 (0, 0)) from blk_put (cs := #[.pointer t.adr, .int .i64 (m.row.length : Int), .int .i64 m.rev, .int .i64 m.low, .slice ad m.hap.length c]) (blk_far (p := ⟨X, 2, none⟩) HB2.out nTX (.int .i64 m.rev)) 1 (.int .i64 ((m.row.length : Int) + 1)) rfl)
  have HX3 := Lib.hid (show ((w2.setCell ⟨X, 2, none⟩ (.int .i64 m.rev)).setCell ⟨tb, 1, none⟩ (.int .i64 ((m.row.length : Int) + 1))).heap[X]? = some (.cells #[.string y.key, .string y.val, .int .i64 m.rev, .int .i64 y.mod] 62 (0, 0)) from blk_far (p := ⟨tb, 1, none⟩) (blk_put (cs := #[.string y.key, .string y.val, .int .i64 y.made, .int .i64 y.mod]) HX2.out 2 (.int .i64 m.rev) rfl) nXT (.int .i64 ((m.row.length : Int) + 1)))
  have HP3 := Lib.hid (show ((w2.setCell ⟨X, 2, none⟩ (.int .i64 m.rev)).setCell ⟨tb, 1, none⟩ (.int .i64 ((m.row.length : Int) + 1))).heap[w.heap.size]? = some (.cells #[.bool false, .string key, .string val] 85 (0, 0)) from blk_far (p := ⟨tb, 1, none⟩) (blk_far (p := ⟨X, 2, none⟩) HP2.out nPX (.int .i64 m.rev)) nPT (.int .i64 ((m.row.length : Int) + 1)))
  have IT3 := Lib.hid (HT.out.ins.kb HT.out.blk (by decide) HK3.out)
  generalize ((w2.setCell ⟨X, 2, none⟩ (.int .i64 m.rev)).setCell ⟨tb, 1, none⟩ (.int .i64 ((m.row.length : Int) + 1))) = w3 at *
  clear HB2 HP2 HX2 HK2 IT2
  have hSB := Lib.hid (show ∀ W, Below w3.heap.size w3 W → (fun W => W.cell? ⟨tb, 2, none⟩ = some (.int .i64 m.rev) ∧ W.cell? ⟨w.heap.size, 0, none⟩ = some (.bool false) ∧ W.cell? ⟨w.heap.size, 1, none⟩ = some (.string key) ∧ W.cell? ⟨w.heap.size, 2, none⟩ = some (.string val) ∧ W.cell? ⟨X, 0, none⟩ = some (.string y.key) ∧ W.cell? ⟨X, 1, none⟩ = some (.string y.val) ∧ W.cell? ⟨X, 2, none⟩ = some (.int .i64 m.rev) ∧ W.cell? ⟨X, 3, none⟩ = some (.int .i64 y.mod)) W from fun W hW => ⟨(hW.cell (p := ⟨tb, 2, none⟩) (blk_lt HB3.out)).trans ((blk_cell HB3.out 2).trans rfl), (hW.cell (p := ⟨w.heap.size, 0, none⟩) (blk_lt HP3.out)).trans ((blk_cell HP3.out 0).trans rfl), (hW.cell (p := ⟨w.heap.size, 1, none⟩) (blk_lt HP3.out)).trans ((blk_cell HP3.out 1).trans rfl), (hW.cell (p := ⟨w.heap.size, 2, none⟩) (blk_lt HP3.out)).trans ((blk_cell HP3.out 2).trans rfl), (hW.cell (p := ⟨X, 0, none⟩) (blk_lt HX3.out)).trans ((blk_cell HX3.out 0).trans rfl), (hW.cell (p := ⟨X, 1, none⟩) (blk_lt HX3.out)).trans ((blk_cell HX3.out 1).trans rfl), (hW.cell (p := ⟨X, 2, none⟩) (blk_lt HX3.out)).trans ((blk_cell HX3.out 2).trans rfl), (hW.cell (p := ⟨X, 3, none⟩) (blk_lt HX3.out)).trans ((blk_cell HX3.out 3).trans rfl)⟩)
  have hB0 := Lib.hid (Below.refl w3.heap.size w3)
  have hB1 := Lib.hid (show Below w3.heap.size w3 w3.drew from below_drew hB0.out)
  refine wp_region_noPanic ?_
  refine wp_region_held_drew (S := fun W => W.cell? ⟨tb, 2, none⟩ = some (.int .i64 m.rev) ∧ W.cell? ⟨w.heap.size, 0, none⟩ = some (.bool false) ∧ W.cell? ⟨w.heap.size, 1, none⟩ = some (.string key) ∧ W.cell? ⟨w.heap.size, 2, none⟩ = some (.string val) ∧ W.cell? ⟨X, 0, none⟩ = some (.string y.key) ∧ W.cell? ⟨X, 1, none⟩ = some (.string y.val) ∧ W.cell? ⟨X, 2, none⟩ = some (.int .i64 m.rev) ∧ W.cell? ⟨X, 3, none⟩ = some (.int .i64 y.mod)) (by kernel_rfl) (hSB.out _ hB1.out) (fun hHeld => ?_)
  refine wTake 0 ?_
  refine wTake 1 ?_
  refine wTake 2 ?_
  refine wTake 3 ?_
  refine wTake 5 ?_
  refine wTake 6 ?_
  refine wTake 7 ?_
  refine wTake 8 ?_
  refine wTake 9 ?_
  refine wTake 10 ?_
  refine wTake 11 ?_
  refine wTake 12 ?_
  refine wTake 13 ?_
  refine wTake 14 ?_
  refine wTake 15 ?_
  refine wTake 16 ?_
  refine wTake 17 ?_
  try simp only [Act.put, List.setIfInBounds_toArray, List.set_cons_zero, List.set_cons_succ]
  refine wpAnyH_ready (rs := [4]) (by kernel_rfl) (by simp) (AllReadyH.cons rfl (fun K hK => ?_) AllReadyH.nil)
  have zz := (blk_cell ((hB1.out.block _ (blk_lt HB3.out)).trans HB3.out) 0).trans rfl
  go_simp
  clear zz
  refine hK.out _ _ (hSB.out _ hB1.out) (fun hHeld => ?_)
  clear hK K
  try simp only [Act.put, List.setIfInBounds_toArray, List.set_cons_zero, List.set_cons_succ]
  refine wpAnyH_ready (rs := [18]) (by kernel_rfl) (by simp) (AllReadyH.cons rfl (fun K hK => ?_) AllReadyH.nil)
  go_simp
  refine (put_any (⟨key, val, m.rev, m.rev⟩ : Ent) t _ (AT.In.below hB1.out IT3.out) HT.out.tall HT.out.srt (by rw [HT.out.row]; omega)).mono ?_
  rintro z x2 ⟨t1, rfl, i1, tl1, row1, hb⟩
  have hB2 := Lib.hid (below_next0 hB1.out hb)
  have It1_2 := Lib.hid i1
  have T1 := Lib.hid tl1
  have R1 := Lib.hid row1
  clear tl1 row1
  clear hb i1
  go_wp2_with fail
  refine hK.out _ _ (hSB.out _ hB2.out) (fun hHeld => ?_)
  clear hK K
  try simp only [Act.put, List.setIfInBounds_toArray, List.set_cons_zero, List.set_cons_succ]
  refine wTake 19 ?_
  refine wTake 20 ?_
  try simp only [Act.put, List.setIfInBounds_toArray, List.set_cons_zero, List.set_cons_succ]
  refine wpAnyH_ready (rs := [21]) (by kernel_rfl) (by simp) (AllReadyH.cons rfl (fun K hK => ?_) AllReadyH.nil)
  have zb := ((hB2.out.block _ (blk_lt HB3.out)).trans HB3.out)
  have zf := blk_frozen zb 0
  have zz0 := (blk_cell zb 0).trans rfl
  have zz1 := (blk_cell zb 1).trans rfl
  have zz2 := (blk_cell zb 2).trans rfl
  have zz3 := (blk_cell zb 3).trans rfl
  have zz4 := (blk_cell zb 4).trans rfl
  go_simp
  clear zf zz0 zz1 zz2 zz3 zz4
  have Hw9 := Lib.hid (show (x2.setCell ⟨tb, 0, none⟩ (.pointer t1.adr)).heap[tb]? = some (.cells #[.pointer t1.adr, .int .i64 ((m.row.length : Int) + 1), .int .i64 m.rev, .int .i64 m.low, .slice ad m.hap.length c] 166 (0, 0)) from blk_put (cs := #[.pointer t.adr, .int .i64 ((m.row.length : Int) + 1), .int .i64 m.rev, .int .i64 m.low, .slice ad m.hap.length c]) zb 0 (.pointer t1.adr) rfl)
  have Kw9 := Lib.hid (show Kb tb w (x2.setCell ⟨tb, 0, none⟩ (.pointer t1.adr)) from (HK3.out.then_below hB2.out).set 0 (.pointer t1.adr))
  have Jw9 := Lib.hid (show Kb tb x2 (x2.setCell ⟨tb, 0, none⟩ (.pointer t1.adr)) from (Kb.refl tb x2).set 0 (.pointer t1.adr))
  have hs' : (fun W => W.cell? ⟨tb, 2, none⟩ = some (.int .i64 m.rev) ∧ W.cell? ⟨w.heap.size, 0, none⟩ = some (.bool false) ∧ W.cell? ⟨w.heap.size, 1, none⟩ = some (.string key) ∧ W.cell? ⟨w.heap.size, 2, none⟩ = some (.string val) ∧ W.cell? ⟨X, 0, none⟩ = some (.string y.key) ∧ W.cell? ⟨X, 1, none⟩ = some (.string y.val) ∧ W.cell? ⟨X, 2, none⟩ = some (.int .i64 m.rev) ∧ W.cell? ⟨X, 3, none⟩ = some (.int .i64 y.mod)) (x2.setCell ⟨tb, 0, none⟩ (.pointer t1.adr)) := ⟨(blk_cell Hw9.out 2).trans rfl, (blk_cell (Jw9.out.blk ((hB2.out.block _ (blk_lt HP3.out)).trans HP3.out) (far_type zb ((hB2.out.block _ (blk_lt HP3.out)).trans HP3.out) (by decide))) 0).trans rfl, (blk_cell (Jw9.out.blk ((hB2.out.block _ (blk_lt HP3.out)).trans HP3.out) (far_type zb ((hB2.out.block _ (blk_lt HP3.out)).trans HP3.out) (by decide))) 1).trans rfl, (blk_cell (Jw9.out.blk ((hB2.out.block _ (blk_lt HP3.out)).trans HP3.out) (far_type zb ((hB2.out.block _ (blk_lt HP3.out)).trans HP3.out) (by decide))) 2).trans rfl, (blk_cell (Jw9.out.blk ((hB2.out.block _ (blk_lt HX3.out)).trans HX3.out) (far_type zb ((hB2.out.block _ (blk_lt HX3.out)).trans HX3.out) (by decide))) 0).trans rfl, (blk_cell (Jw9.out.blk ((hB2.out.block _ (blk_lt HX3.out)).trans HX3.out) (far_type zb ((hB2.out.block _ (blk_lt HX3.out)).trans HX3.out) (by decide))) 1).trans rfl, (blk_cell (Jw9.out.blk ((hB2.out.block _ (blk_lt HX3.out)).trans HX3.out) (far_type zb ((hB2.out.block _ (blk_lt HX3.out)).trans HX3.out) (by decide))) 2).trans rfl, (blk_cell (Jw9.out.blk ((hB2.out.block _ (blk_lt HX3.out)).trans HX3.out) (far_type zb ((hB2.out.block _ (blk_lt HX3.out)).trans HX3.out) (by decide))) 3).trans rfl⟩
  have It1_w9 := Lib.hid (AT.In.kb zb (by decide) Jw9.out It1_2.out)
  clear zb
  generalize (x2.setCell ⟨tb, 0, none⟩ (.pointer t1.adr)) = w9 at *
  refine hK.out _ _ hs' (fun hHeld => ?_)
  clear hK K
  try simp only [Act.put, List.setIfInBounds_toArray, List.set_cons_zero, List.set_cons_succ]
  refine wpAnyH_done (by kernel_rfl) ?_ _
  refine NoPanic.normal ?_
  clear hHeld
  go_wp2
  go_ret
  refine ⟨t1, rfl, HT.out.remade Kw9.out rfl ?_ It1_w9.out T1.out (R1.out.trans (by rw [HT.out.row])) (ok_row HT.out.ok (ins_srt HT.out.ok.srt) (fun x hx => (ins_mem hx).elim (fun e => by subst e; exact ⟨h1, Int.le_refl _, Int.le_refl _⟩) (HT.out.ok.made x))), Kw9.out⟩
  show w9.heap[tb]? = some (.cells #[.pointer t1.adr, .int .i64 ((insL (⟨key, val, m.rev, m.rev⟩ : Ent) m.row).length : Int), .int .i64 m.rev, .int .i64 m.low, .slice ad m.hap.length c] 166 (0, 0))
  rw [← HN.out]
  exact Hw9.out
set_option maxHeartbeats 2000000 in
set_option maxRecDepth 100000 in
theorem op_d (key val : ByteArray) (tb : Nat) (t : AT) (m : Md) (ad : Option Addr) (c : Nat) (w : World) (hT : At w tb t m ad c) (h1 : 1 ≤ m.rev) (hl : m.row.length ≤ 200000000) (z : Ent) (hg : getL key m.row = some z) :
    Calls Try.prog 118 #[.pointer (some ⟨tb, 0, none⟩), .agg #[.bool false, .string key, .string val]] w fun e w' => ∃ t', e = .returned (.bool true) ∧ At w' tb t' ⟨insL ⟨key, val, z.made, m.rev⟩ m.row, m.rev, m.low, m.hap⟩ ad c ∧ Kb tb w w' := by
  have hn : ((insL ⟨key, val, z.made, m.rev⟩ m.row).length : Int) = m.row.length := by
    have := ins_length (x := ⟨key, val, z.made, m.rev⟩) hT.ok.srt
    rw [show getL (Ent.mk key val z.made m.rev).key m.row = some z from hg] at this
    simp only [Option.isSome_some, if_true] at this
    omega
  have hzm : (getD key m.row) = z := by unfold getD; rw [hg]; rfl
  have hmd : 1 ≤ z.made ∧ z.made ≤ m.rev := by have := hT.ok.made z (get_some hg).1; omega
  have hg' := fun W hW => get_any t key W hW hT.srt
  rw [hT.row] at hg'
  rw [show (getL key m.row).isSome = true from by rw [hg]; rfl] at hg'
  obtain ⟨y, hy⟩ : ∃ y, getD key m.row = y := ⟨_, rfl⟩
  rw [hy] at hg'
  have HY := Lib.hid hy
  have HG := Lib.hid hg'
  have HL := Lib.hid hg
  have HT := Lib.hid hT
  clear hg' hg hT hy
  go_enter Try.func118, Try.ntmps118
  go_wp2_with fail
  have Bw := Lib.hid (show Below w.heap.size w (w.alloc (.cells #[.bool false, .string key, .string val] 85)) from below_alloc (Below.refl _ _) (.cells #[.bool false, .string key, .string val] 85))
  have HP1 := Lib.hid (heap_alloc_new w (.cells #[.bool false, .string key, .string val] 85))
  have HT1 := Lib.hid (HT.out.below Bw.out)
  have HB1 := Lib.hid (HT1.out.blk)
  generalize w.alloc (.cells #[.bool false, .string key, .string val] 85) = w1 at *
  have hSB := Lib.hid (show ∀ W, Below w1.heap.size w1 W → (fun W => W.cell? ⟨tb, 0, none⟩ = some (.pointer t.adr) ∧ W.cell? ⟨tb, 1, none⟩ = some (.int .i64 (m.row.length : Int)) ∧ W.cell? ⟨tb, 2, none⟩ = some (.int .i64 m.rev) ∧ W.cell? ⟨tb, 3, none⟩ = some (.int .i64 m.low) ∧ W.cell? ⟨tb, 4, none⟩ = some (.slice ad m.hap.length c) ∧ W.cell? ⟨w.heap.size, 0, none⟩ = some (.bool false) ∧ W.cell? ⟨w.heap.size, 1, none⟩ = some (.string key) ∧ W.cell? ⟨w.heap.size, 2, none⟩ = some (.string val)) W from fun W hW => ⟨(hW.cell (p := ⟨tb, 0, none⟩) (blk_lt HB1.out)).trans ((blk_cell HB1.out 0).trans rfl), (hW.cell (p := ⟨tb, 1, none⟩) (blk_lt HB1.out)).trans ((blk_cell HB1.out 1).trans rfl), (hW.cell (p := ⟨tb, 2, none⟩) (blk_lt HB1.out)).trans ((blk_cell HB1.out 2).trans rfl), (hW.cell (p := ⟨tb, 3, none⟩) (blk_lt HB1.out)).trans ((blk_cell HB1.out 3).trans rfl), (hW.cell (p := ⟨tb, 4, none⟩) (blk_lt HB1.out)).trans ((blk_cell HB1.out 4).trans rfl), (hW.cell (p := ⟨w.heap.size, 0, none⟩) (blk_lt HP1.out)).trans ((blk_cell HP1.out 0).trans rfl), (hW.cell (p := ⟨w.heap.size, 1, none⟩) (blk_lt HP1.out)).trans ((blk_cell HP1.out 1).trans rfl), (hW.cell (p := ⟨w.heap.size, 2, none⟩) (blk_lt HP1.out)).trans ((blk_cell HP1.out 2).trans rfl)⟩)
  have hB0 := Lib.hid (Below.refl w1.heap.size w1)
  apply cutXW (fun X W => w1.heap.size ≤ X ∧ Below w1.heap.size w1 W ∧ W.heap[X]? = some (.cells #[.string y.key, .string y.val, .int .i64 y.made, .int .i64 y.mod] 62 (0, 0)))
  · intro REST
    have REST' := Lib.hid REST
    clear REST
    have hB1 := Lib.hid (show Below w1.heap.size w1 w1.drew from below_drew hB0.out)
    refine wp_region_noPanic ?_
    refine wp_region_held_drew (S := fun W => W.cell? ⟨tb, 0, none⟩ = some (.pointer t.adr) ∧ W.cell? ⟨tb, 1, none⟩ = some (.int .i64 (m.row.length : Int)) ∧ W.cell? ⟨tb, 2, none⟩ = some (.int .i64 m.rev) ∧ W.cell? ⟨tb, 3, none⟩ = some (.int .i64 m.low) ∧ W.cell? ⟨tb, 4, none⟩ = some (.slice ad m.hap.length c) ∧ W.cell? ⟨w.heap.size, 0, none⟩ = some (.bool false) ∧ W.cell? ⟨w.heap.size, 1, none⟩ = some (.string key) ∧ W.cell? ⟨w.heap.size, 2, none⟩ = some (.string val)) (by kernel_rfl) (hSB.out _ hB1.out) (fun hHeld => ?_)
    refine wTake 0 ?_
    refine wTake 1 ?_
    refine wTake 2 ?_
    refine wTake 3 ?_
    refine wTake 4 ?_
    refine wTake 5 ?_
    try simp only [Act.put, List.setIfInBounds_toArray, List.set_cons_zero, List.set_cons_succ]
    refine wpAnyH_ready (rs := [6, 10]) (by kernel_rfl) (by simp) (AllReadyH.cons rfl (fun K hK => ?_) (AllReadyH.cons rfl (fun K hK => ?_) AllReadyH.nil))
    · go_simp
      refine (HG.out _ (AT.In.below hB1.out HT1.out.ins)).mono ?_
      rintro z x2 ⟨rfl, hb⟩
      have hB2 := Lib.hid (below_next0 hB1.out hb)
      clear hb
      go_wp2_with fail
      refine hK.out _ _ (hSB.out _ hB2.out) (fun hHeld => ?_)
      clear hK K
      try simp only [Act.put, List.setIfInBounds_toArray, List.set_cons_zero, List.set_cons_succ]
      refine wTake 7 ?_
      refine wTake 8 ?_
      refine wTake 9 ?_
      try simp only [Act.put, List.setIfInBounds_toArray, List.set_cons_zero, List.set_cons_succ]
      refine wpAnyH_ready (rs := [10]) (by kernel_rfl) (by simp) (AllReadyH.cons rfl (fun K hK => ?_) AllReadyH.nil)
      go_simp
      obtain ⟨X, hX⟩ : ∃ X, X = x2.heap.size := ⟨_, rfl⟩
      go_wp2_with fail
      have eX : x2.heap.size = X := hX.symm
      rw [eX]
      have lX : w1.heap.size ≤ X := by rw [hX]; exact hB2.out.size
      have hB3 := Lib.hid (show Below w1.heap.size w1 (x2.alloc (.cells #[.string ⟨#[]⟩, .string ⟨#[]⟩, .int .i64 0, .int .i64 0] 62)) from below_alloc hB2.out (.cells #[.string ⟨#[]⟩, .string ⟨#[]⟩, .int .i64 0, .int .i64 0] 62))
      have HX_3 := Lib.hid (show (x2.alloc (.cells #[.string ⟨#[]⟩, .string ⟨#[]⟩, .int .i64 0, .int .i64 0] 62)).heap[X]? = some (.cells #[.string ⟨#[]⟩, .string ⟨#[]⟩, .int .i64 0, .int .i64 0] 62 (0, 0)) from hX ▸ heap_alloc_new x2 (.cells #[.string ⟨#[]⟩, .string ⟨#[]⟩, .int .i64 0, .int .i64 0] 62))
      clear eX hX
      generalize (x2.alloc (.cells #[.string ⟨#[]⟩, .string ⟨#[]⟩, .int .i64 0, .int .i64 0] 62)) = x3 at *
      refine hK.out _ _ (hSB.out _ hB3.out) (fun hHeld => ?_)
      clear hK K
      try simp only [Act.put, List.setIfInBounds_toArray, List.set_cons_zero, List.set_cons_succ]
      refine wpAnyH_ready (rs := [11]) (by kernel_rfl) (by simp) (AllReadyH.cons rfl (fun K hK => ?_) AllReadyH.nil)
      have z0 := blk_cell HX_3.out 0
      have y0 := blk_frozen HX_3.out 0
      have z1 := blk_cell HX_3.out 1
      have y1 := blk_frozen HX_3.out 1
      have z2 := blk_cell HX_3.out 2
      have y2 := blk_frozen HX_3.out 2
      have z3 := blk_cell HX_3.out 3
      have y3 := blk_frozen HX_3.out 3
      simp only [List.getElem?_toArray, List.getElem?_cons_zero, List.getElem?_cons_succ] at z0 z1 z2 z3
      go_simp
      clear z0 y0 z1 y1 z2 y2 z3 y3
      have hB4 := Lib.hid (show Below w1.heap.size w1 ((((x3.setCell ⟨X, 0, none⟩ (.string y.key)).setCell ⟨X, 1, none⟩ (.string y.val)).setCell ⟨X, 2, none⟩ (.int .i64 y.made)).setCell ⟨X, 3, none⟩ (.int .i64 y.mod)) from ((((hB3.out.setCell (p := ⟨X, 0, none⟩) lX (.string y.key)).setCell (p := ⟨X, 1, none⟩) lX (.string y.val)).setCell (p := ⟨X, 2, none⟩) lX (.int .i64 y.made)).setCell (p := ⟨X, 3, none⟩) lX (.int .i64 y.mod)))
      have HX_4 := Lib.hid (show ((((x3.setCell ⟨X, 0, none⟩ (.string y.key)).setCell ⟨X, 1, none⟩ (.string y.val)).setCell ⟨X, 2, none⟩ (.int .i64 y.made)).setCell ⟨X, 3, none⟩ (.int .i64 y.mod)).heap[X]? = some (.cells #[.string y.key, .string y.val, .int .i64 y.made, .int .i64 y.mod] 62 (0, 0)) from (blk_put (cs := #[.string y.key, .string y.val, .int .i64 y.made, .int .i64 0]) (blk_put (cs := #[.string y.key, .string y.val, .int .i64 0, .int .i64 0]) (blk_put (cs := #[.string y.key, .string ⟨#[]⟩, .int .i64 0, .int .i64 0]) (blk_put (cs := #[.string ⟨#[]⟩, .string ⟨#[]⟩, .int .i64 0, .int .i64 0]) HX_3.out 0 (.string y.key) rfl) 1 (.string y.val) rfl) 2 (.int .i64 y.made) rfl) 3 (.int .i64 y.mod) rfl))
      generalize ((((x3.setCell ⟨X, 0, none⟩ (.string y.key)).setCell ⟨X, 1, none⟩ (.string y.val)).setCell ⟨X, 2, none⟩ (.int .i64 y.made)).setCell ⟨X, 3, none⟩ (.int .i64 y.mod)) = x4 at *
      refine hK.out _ _ (hSB.out _ hB4.out) (fun hHeld => ?_)
      clear hK K
      try simp only [Act.put, List.setIfInBounds_toArray, List.set_cons_zero, List.set_cons_succ]
      refine wTake 12 ?_
      try simp only [Act.put, List.setIfInBounds_toArray, List.set_cons_zero, List.set_cons_succ]
      refine wpAnyH_done (by kernel_rfl) ?_ _
      refine NoPanic.normal ?_
      exact REST'.out X x4 ⟨lX, hB4.out, HX_4.out⟩
    · go_simp
      obtain ⟨X, hX⟩ : ∃ X, X = w1.drew.heap.size := ⟨_, rfl⟩
      go_wp2_with fail
      have eX : w1.heap.size = X := hX.symm
      rw [eX]
      have lX : w1.heap.size ≤ X := by rw [hX]; exact hB1.out.size
      have hB2 := Lib.hid (show Below w1.heap.size w1 (w1.alloc (.cells #[.string ⟨#[]⟩, .string ⟨#[]⟩, .int .i64 0, .int .i64 0] 62)).drew from below_alloc hB1.out (.cells #[.string ⟨#[]⟩, .string ⟨#[]⟩, .int .i64 0, .int .i64 0] 62))
      have HX_2 := Lib.hid (show (w1.alloc (.cells #[.string ⟨#[]⟩, .string ⟨#[]⟩, .int .i64 0, .int .i64 0] 62)).drew.heap[X]? = some (.cells #[.string ⟨#[]⟩, .string ⟨#[]⟩, .int .i64 0, .int .i64 0] 62 (0, 0)) from hX ▸ heap_alloc_new w1.drew (.cells #[.string ⟨#[]⟩, .string ⟨#[]⟩, .int .i64 0, .int .i64 0] 62))
      clear eX hX
      generalize (w1.alloc (.cells #[.string ⟨#[]⟩, .string ⟨#[]⟩, .int .i64 0, .int .i64 0] 62)).drew = x2 at *
      refine hK.out _ _ (hSB.out _ hB2.out) (fun hHeld => ?_)
      clear hK K
      try simp only [Act.put, List.setIfInBounds_toArray, List.set_cons_zero, List.set_cons_succ]
      refine wpAnyH_ready (rs := [6]) (by kernel_rfl) (by simp) (AllReadyH.cons rfl (fun K hK => ?_) AllReadyH.nil)
      go_simp
      refine (HG.out _ (AT.In.below hB2.out HT1.out.ins)).mono ?_
      rintro z x3 ⟨rfl, hb⟩
      have hB3 := Lib.hid (below_next0 hB2.out hb)
      have HX_3 := Lib.hid ((hb.block _ (blk_lt HX_2.out)).trans HX_2.out)
      clear hb
      go_wp2_with fail
      refine hK.out _ _ (hSB.out _ hB3.out) (fun hHeld => ?_)
      clear hK K
      try simp only [Act.put, List.setIfInBounds_toArray, List.set_cons_zero, List.set_cons_succ]
      refine wTake 7 ?_
      refine wTake 8 ?_
      refine wTake 9 ?_
      try simp only [Act.put, List.setIfInBounds_toArray, List.set_cons_zero, List.set_cons_succ]
      refine wpAnyH_ready (rs := [11]) (by kernel_rfl) (by simp) (AllReadyH.cons rfl (fun K hK => ?_) AllReadyH.nil)
      have z0 := blk_cell HX_3.out 0
      have y0 := blk_frozen HX_3.out 0
      have z1 := blk_cell HX_3.out 1
      have y1 := blk_frozen HX_3.out 1
      have z2 := blk_cell HX_3.out 2
      have y2 := blk_frozen HX_3.out 2
      have z3 := blk_cell HX_3.out 3
      have y3 := blk_frozen HX_3.out 3
      simp only [List.getElem?_toArray, List.getElem?_cons_zero, List.getElem?_cons_succ] at z0 z1 z2 z3
      go_simp
      clear z0 y0 z1 y1 z2 y2 z3 y3
      have hB4 := Lib.hid (show Below w1.heap.size w1 ((((x3.setCell ⟨X, 0, none⟩ (.string y.key)).setCell ⟨X, 1, none⟩ (.string y.val)).setCell ⟨X, 2, none⟩ (.int .i64 y.made)).setCell ⟨X, 3, none⟩ (.int .i64 y.mod)) from ((((hB3.out.setCell (p := ⟨X, 0, none⟩) lX (.string y.key)).setCell (p := ⟨X, 1, none⟩) lX (.string y.val)).setCell (p := ⟨X, 2, none⟩) lX (.int .i64 y.made)).setCell (p := ⟨X, 3, none⟩) lX (.int .i64 y.mod)))
      have HX_4 := Lib.hid (show ((((x3.setCell ⟨X, 0, none⟩ (.string y.key)).setCell ⟨X, 1, none⟩ (.string y.val)).setCell ⟨X, 2, none⟩ (.int .i64 y.made)).setCell ⟨X, 3, none⟩ (.int .i64 y.mod)).heap[X]? = some (.cells #[.string y.key, .string y.val, .int .i64 y.made, .int .i64 y.mod] 62 (0, 0)) from (blk_put (cs := #[.string y.key, .string y.val, .int .i64 y.made, .int .i64 0]) (blk_put (cs := #[.string y.key, .string y.val, .int .i64 0, .int .i64 0]) (blk_put (cs := #[.string y.key, .string ⟨#[]⟩, .int .i64 0, .int .i64 0]) (blk_put (cs := #[.string ⟨#[]⟩, .string ⟨#[]⟩, .int .i64 0, .int .i64 0]) HX_3.out 0 (.string y.key) rfl) 1 (.string y.val) rfl) 2 (.int .i64 y.made) rfl) 3 (.int .i64 y.mod) rfl))
      generalize ((((x3.setCell ⟨X, 0, none⟩ (.string y.key)).setCell ⟨X, 1, none⟩ (.string y.val)).setCell ⟨X, 2, none⟩ (.int .i64 y.made)).setCell ⟨X, 3, none⟩ (.int .i64 y.mod)) = x4 at *
      refine hK.out _ _ (hSB.out _ hB4.out) (fun hHeld => ?_)
      clear hK K
      try simp only [Act.put, List.setIfInBounds_toArray, List.set_cons_zero, List.set_cons_succ]
      refine wTake 12 ?_
      try simp only [Act.put, List.setIfInBounds_toArray, List.set_cons_zero, List.set_cons_succ]
      refine wpAnyH_done (by kernel_rfl) ?_ _
      refine NoPanic.normal ?_
      exact REST'.out X x4 ⟨lX, hB4.out, HX_4.out⟩
  intro X w2 hf
  obtain ⟨lX, hb2, hX2⟩ := hf
  have HX2 := Lib.hid hX2
  have HB2 := Lib.hid ((hb2.block _ (blk_lt HB1.out)).trans HB1.out)
  have HP2 := Lib.hid ((hb2.block _ (blk_lt HP1.out)).trans HP1.out)
  have HK2 := Lib.hid (Kb.of_below (Bw.out.trans (hb2.mono Bw.out.size)) tb)
  have IT2 := Lib.hid (HT1.out.ins.below hb2)
  have LX := Lib.hid (Nat.le_trans Bw.out.size lX)
  clear hSB hB0 hX2 hb2 lX HT1 HB1 HP1 Bw HG
  try dsimp only
  have hyz : y = z := HY.out.symm.trans hzm
  subst hyz
  have HN := Lib.hid hn
  clear hn
  have a0 := blk_cell HP2.out 0
  have a1 := blk_cell HP2.out 1
  have a2 := blk_cell HP2.out 2
  simp only [List.getElem?_toArray, List.getElem?_cons_zero, List.getElem?_cons_succ] at a0 a1 a2
  have al := blk_lt HP2.out
  go_wp2_with fail
  clear a0 a1 a2 al
  have hSB := Lib.hid (show ∀ W, Below w2.heap.size w2 W → (fun W => W.cell? ⟨tb, 2, none⟩ = some (.int .i64 m.rev) ∧ W.cell? ⟨w.heap.size, 0, none⟩ = some (.bool false) ∧ W.cell? ⟨w.heap.size, 1, none⟩ = some (.string key) ∧ W.cell? ⟨w.heap.size, 2, none⟩ = some (.string val) ∧ W.cell? ⟨X, 0, none⟩ = some (.string y.key) ∧ W.cell? ⟨X, 1, none⟩ = some (.string y.val) ∧ W.cell? ⟨X, 2, none⟩ = some (.int .i64 y.made) ∧ W.cell? ⟨X, 3, none⟩ = some (.int .i64 y.mod)) W from fun W hW => ⟨(hW.cell (p := ⟨tb, 2, none⟩) (blk_lt HB2.out)).trans ((blk_cell HB2.out 2).trans rfl), (hW.cell (p := ⟨w.heap.size, 0, none⟩) (blk_lt HP2.out)).trans ((blk_cell HP2.out 0).trans rfl), (hW.cell (p := ⟨w.heap.size, 1, none⟩) (blk_lt HP2.out)).trans ((blk_cell HP2.out 1).trans rfl), (hW.cell (p := ⟨w.heap.size, 2, none⟩) (blk_lt HP2.out)).trans ((blk_cell HP2.out 2).trans rfl), (hW.cell (p := ⟨X, 0, none⟩) (blk_lt HX2.out)).trans ((blk_cell HX2.out 0).trans rfl), (hW.cell (p := ⟨X, 1, none⟩) (blk_lt HX2.out)).trans ((blk_cell HX2.out 1).trans rfl), (hW.cell (p := ⟨X, 2, none⟩) (blk_lt HX2.out)).trans ((blk_cell HX2.out 2).trans rfl), (hW.cell (p := ⟨X, 3, none⟩) (blk_lt HX2.out)).trans ((blk_cell HX2.out 3).trans rfl)⟩)
  have hB0 := Lib.hid (Below.refl w2.heap.size w2)
  have hB1 := Lib.hid (show Below w2.heap.size w2 w2.drew from below_drew hB0.out)
  refine wp_region_noPanic ?_
  refine wp_region_held_drew (S := fun W => W.cell? ⟨tb, 2, none⟩ = some (.int .i64 m.rev) ∧ W.cell? ⟨w.heap.size, 0, none⟩ = some (.bool false) ∧ W.cell? ⟨w.heap.size, 1, none⟩ = some (.string key) ∧ W.cell? ⟨w.heap.size, 2, none⟩ = some (.string val) ∧ W.cell? ⟨X, 0, none⟩ = some (.string y.key) ∧ W.cell? ⟨X, 1, none⟩ = some (.string y.val) ∧ W.cell? ⟨X, 2, none⟩ = some (.int .i64 y.made) ∧ W.cell? ⟨X, 3, none⟩ = some (.int .i64 y.mod)) (by kernel_rfl) (hSB.out _ hB1.out) (fun hHeld => ?_)
  refine wTake 0 ?_
  refine wTake 1 ?_
  refine wTake 2 ?_
  refine wTake 3 ?_
  refine wTake 5 ?_
  refine wTake 6 ?_
  refine wTake 7 ?_
  refine wTake 8 ?_
  refine wTake 9 ?_
  refine wTake 10 ?_
  refine wTake 11 ?_
  refine wTake 12 ?_
  refine wTake 13 ?_
  refine wTake 14 ?_
  refine wTake 15 ?_
  refine wTake 16 ?_
  refine wTake 17 ?_
  try simp only [Act.put, List.setIfInBounds_toArray, List.set_cons_zero, List.set_cons_succ]
  refine wpAnyH_ready (rs := [4]) (by kernel_rfl) (by simp) (AllReadyH.cons rfl (fun K hK => ?_) AllReadyH.nil)
  have zz := (blk_cell ((hB1.out.block _ (blk_lt HB2.out)).trans HB2.out) 0).trans rfl
  go_simp
  clear zz
  refine hK.out _ _ (hSB.out _ hB1.out) (fun hHeld => ?_)
  clear hK K
  try simp only [Act.put, List.setIfInBounds_toArray, List.set_cons_zero, List.set_cons_succ]
  refine wpAnyH_ready (rs := [18]) (by kernel_rfl) (by simp) (AllReadyH.cons rfl (fun K hK => ?_) AllReadyH.nil)
  go_simp
  refine (put_any (⟨key, val, y.made, m.rev⟩ : Ent) t _ (AT.In.below hB1.out IT2.out) HT.out.tall HT.out.srt (by rw [HT.out.row]; omega)).mono ?_
  rintro z x2 ⟨t1, rfl, i1, tl1, row1, hb⟩
  have hB2 := Lib.hid (below_next0 hB1.out hb)
  have It1_2 := Lib.hid i1
  have T1 := Lib.hid tl1
  have R1 := Lib.hid row1
  clear tl1 row1
  clear hb i1
  go_wp2_with fail
  refine hK.out _ _ (hSB.out _ hB2.out) (fun hHeld => ?_)
  clear hK K
  try simp only [Act.put, List.setIfInBounds_toArray, List.set_cons_zero, List.set_cons_succ]
  refine wTake 19 ?_
  refine wTake 20 ?_
  try simp only [Act.put, List.setIfInBounds_toArray, List.set_cons_zero, List.set_cons_succ]
  refine wpAnyH_ready (rs := [21]) (by kernel_rfl) (by simp) (AllReadyH.cons rfl (fun K hK => ?_) AllReadyH.nil)
  have zb := ((hB2.out.block _ (blk_lt HB2.out)).trans HB2.out)
  have zf := blk_frozen zb 0
  have zz0 := (blk_cell zb 0).trans rfl
  have zz1 := (blk_cell zb 1).trans rfl
  have zz2 := (blk_cell zb 2).trans rfl
  have zz3 := (blk_cell zb 3).trans rfl
  have zz4 := (blk_cell zb 4).trans rfl
  go_simp
  clear zf zz0 zz1 zz2 zz3 zz4
  have Hw9 := Lib.hid (show (x2.setCell ⟨tb, 0, none⟩ (.pointer t1.adr)).heap[tb]? = some (.cells #[.pointer t1.adr, .int .i64 (m.row.length : Int), .int .i64 m.rev, .int .i64 m.low, .slice ad m.hap.length c] 166 (0, 0)) from blk_put (cs := #[.pointer t.adr, .int .i64 (m.row.length : Int), .int .i64 m.rev, .int .i64 m.low, .slice ad m.hap.length c]) zb 0 (.pointer t1.adr) rfl)
  have Kw9 := Lib.hid (show Kb tb w (x2.setCell ⟨tb, 0, none⟩ (.pointer t1.adr)) from (HK2.out.then_below hB2.out).set 0 (.pointer t1.adr))
  have Jw9 := Lib.hid (show Kb tb x2 (x2.setCell ⟨tb, 0, none⟩ (.pointer t1.adr)) from (Kb.refl tb x2).set 0 (.pointer t1.adr))
  have hs' : (fun W => W.cell? ⟨tb, 2, none⟩ = some (.int .i64 m.rev) ∧ W.cell? ⟨w.heap.size, 0, none⟩ = some (.bool false) ∧ W.cell? ⟨w.heap.size, 1, none⟩ = some (.string key) ∧ W.cell? ⟨w.heap.size, 2, none⟩ = some (.string val) ∧ W.cell? ⟨X, 0, none⟩ = some (.string y.key) ∧ W.cell? ⟨X, 1, none⟩ = some (.string y.val) ∧ W.cell? ⟨X, 2, none⟩ = some (.int .i64 y.made) ∧ W.cell? ⟨X, 3, none⟩ = some (.int .i64 y.mod)) (x2.setCell ⟨tb, 0, none⟩ (.pointer t1.adr)) := ⟨(blk_cell Hw9.out 2).trans rfl, (blk_cell (Jw9.out.blk ((hB2.out.block _ (blk_lt HP2.out)).trans HP2.out) (far_type zb ((hB2.out.block _ (blk_lt HP2.out)).trans HP2.out) (by decide))) 0).trans rfl, (blk_cell (Jw9.out.blk ((hB2.out.block _ (blk_lt HP2.out)).trans HP2.out) (far_type zb ((hB2.out.block _ (blk_lt HP2.out)).trans HP2.out) (by decide))) 1).trans rfl, (blk_cell (Jw9.out.blk ((hB2.out.block _ (blk_lt HP2.out)).trans HP2.out) (far_type zb ((hB2.out.block _ (blk_lt HP2.out)).trans HP2.out) (by decide))) 2).trans rfl, (blk_cell (Jw9.out.blk ((hB2.out.block _ (blk_lt HX2.out)).trans HX2.out) (far_type zb ((hB2.out.block _ (blk_lt HX2.out)).trans HX2.out) (by decide))) 0).trans rfl, (blk_cell (Jw9.out.blk ((hB2.out.block _ (blk_lt HX2.out)).trans HX2.out) (far_type zb ((hB2.out.block _ (blk_lt HX2.out)).trans HX2.out) (by decide))) 1).trans rfl, (blk_cell (Jw9.out.blk ((hB2.out.block _ (blk_lt HX2.out)).trans HX2.out) (far_type zb ((hB2.out.block _ (blk_lt HX2.out)).trans HX2.out) (by decide))) 2).trans rfl, (blk_cell (Jw9.out.blk ((hB2.out.block _ (blk_lt HX2.out)).trans HX2.out) (far_type zb ((hB2.out.block _ (blk_lt HX2.out)).trans HX2.out) (by decide))) 3).trans rfl⟩
  have It1_w9 := Lib.hid (AT.In.kb zb (by decide) Jw9.out It1_2.out)
  clear zb
  generalize (x2.setCell ⟨tb, 0, none⟩ (.pointer t1.adr)) = w9 at *
  refine hK.out _ _ hs' (fun hHeld => ?_)
  clear hK K
  try simp only [Act.put, List.setIfInBounds_toArray, List.set_cons_zero, List.set_cons_succ]
  refine wpAnyH_done (by kernel_rfl) ?_ _
  refine NoPanic.normal ?_
  clear hHeld
  go_wp2
  go_ret
  refine ⟨t1, rfl, HT.out.remade Kw9.out rfl ?_ It1_w9.out T1.out (R1.out.trans (by rw [HT.out.row])) (ok_row HT.out.ok (ins_srt HT.out.ok.srt) (fun x hx => (ins_mem hx).elim (fun e => by subst e; exact ⟨hmd.1, hmd.2, Int.le_refl _⟩) (HT.out.ok.made x))), Kw9.out⟩
  show w9.heap[tb]? = some (.cells #[.pointer t1.adr, .int .i64 ((insL (⟨key, val, y.made, m.rev⟩ : Ent) m.row).length : Int), .int .i64 m.rev, .int .i64 m.low, .slice ad m.hap.length c] 166 (0, 0))
  rw [HN.out]
  exact Hw9.out
theorem op_any (o : Opn) (tb : Nat) (t : AT) (m : Md) (ad : Option Addr) (c : Nat) (w : World) (hT : At w tb t m ad c) (h1 : 1 ≤ m.rev) (hl : m.row.length ≤ 200000000) :
    Calls Try.prog 118 #[.pointer (some ⟨tb, 0, none⟩), .agg #[.bool o.del, .string o.key, .string o.val]] w fun e w' => ∃ t', e = .returned (.bool (!(opL m.rev o m.row).2.isEmpty)) ∧ At w' tb t' ⟨(opL m.rev o m.row).1, m.rev, m.low, m.hap⟩ ad c ∧ Kb tb w w' := by
  obtain ⟨del, key, val⟩ := o
  cases hg : getL key m.row with
  | none =>
    cases del
    · have e : opL m.rev ⟨false, key, val⟩ m.row = (insL ⟨key, val, m.rev, m.rev⟩ m.row, [⟨m.rev, false, key, val⟩]) := by simp [opL, madeOf, hg]
      rw [e]
      exact op_c key val tb t m ad c w hT h1 hl hg
    · have e : opL m.rev ⟨true, key, val⟩ m.row = (m.row, []) := by simp [opL, hg]
      rw [e]
      exact (op_a key val tb t m ad c w hT h1 hl hg).mono fun _ _ h => ⟨t, h⟩
  | some z =>
    cases del
    · have e : opL m.rev ⟨false, key, val⟩ m.row = (insL ⟨key, val, z.made, m.rev⟩ m.row, [⟨m.rev, false, key, val⟩]) := by simp [opL, madeOf, hg]
      rw [e]
      exact op_d key val tb t m ad c w hT h1 hl z hg
    · have e : opL m.rev ⟨true, key, val⟩ m.row = (delL key m.row, [⟨m.rev, true, key, val⟩]) := by simp [opL, hg]
      rw [e]
      exact op_b key val tb t m ad c w hT h1 hl z hg
end Go.Proofs.Ytobanhbjkomieaa.TA
