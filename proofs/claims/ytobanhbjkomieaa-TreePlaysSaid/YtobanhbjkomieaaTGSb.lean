import Derived.Test.YtobanhbjkomieaaTESb
import Derived.Deep.LoopGhost
import Derived.LoopN
namespace Go.Proofs.Ytobanhbjkomieaa.TA
open Go Go.RowKit Go.Proofs.YtobanhbjkomieaaW.PrintWords Go.Proofs.YtobanhbjkomieaaW.PrintLast Go.Proofs.YtobanhbjkomieaaW.PrintMore
open Go.Proofs.Ytobanhbjkomieaa.RP (wTake wSkip wOne wpAnyH_cast keep_cell below_next0)
set_option linter.unusedSimpArgs false
set_option linter.unusedVariables false
theorem alloc_at (w : World) (o : Obj) {n : Nat} (h : n = w.heap.size) : (w.alloc o).heap[n]? = some o := h ▸ heap_alloc_new w o
theorem lt_bytes {a b : ByteArray} {z : Bool} (h : lt a b = z) : Op.bytesLess a.toList b.toList = z := h
theorem beq_ne {a b : ByteArray} (h : a ≠ b) : (a.toList == b.toList) = false := beq_eq_false_iff_ne.2 (fun e => h (toList_inj e))
theorem beq_same {a b : ByteArray} (h : a = b) : (a.toList == b.toList) = true := by rw [h]; exact beq_self_eq_true _
theorem ins_le {x : Ent} {l : List Ent} (h : Srt l) : (insL x l).length ≤ l.length + 1 := by have := ins_length (x := x) h; split at this <;> omega
theorem del_le (k : ByteArray) (l : List Ent) : (delL k l).length ≤ l.length := List.length_filter_le _ _
theorem AT.depth_node (b : Nat) (e : Ent) (l r : AT) (h : Int) : (AT.node b e l r h).depth = l.depth + r.depth + 1 := rfl
set_option maxHeartbeats 2000000 in
set_option maxRecDepth 100000 in
theorem put_any (x : Ent) : ∀ (t : AT) (w : World), t.In w → t.Tall → Srt t.row → t.row.length ≤ 300000000 →
    Calls Try.prog 140 #[.pointer t.adr, .string x.key, .agg #[.string x.key, .string x.val, .int .i64 x.made, .int .i64 x.mod]] w fun z w' => ∃ t' : AT, z = .returned (.pointer t'.adr) ∧ t'.In w' ∧ t'.Tall ∧ t'.row = insL x t.row ∧ Below w.heap.size w w' := by
  intro t
  induction t with
  | nil =>
    intro w _ _ _ _
    show Calls _ _ #[.pointer none, _, _] _ _
    go_enter Try.func140, Try.ntmps140
    go_wp2
    go_ret
    exact ⟨AT.node (w.heap.size + 1) x AT.nil AT.nil 1, rfl, ⟨alloc_at _ _ (by simp), trivial, trivial⟩, ⟨by simp [AT.high], trivial, trivial⟩, rfl, below_alloc (below_alloc (Below.refl _ _) _) _⟩
  | node b e l r h ihl ihr =>
    intro w ht hT hS hn
    obtain ⟨h0, hl, hr⟩ := ht
    obtain ⟨hh, tl, tr⟩ := hT
    have hS' := hS
    obtain ⟨sl, sr, m1, m2, m3⟩ := srt_mid.1 hS'
    simp only [AT.row, List.length_append, List.length_cons] at hn
    have ihl := fun W hW => ihl W hW tl sl (by omega)
    have ihr := fun W hW => ihr W hW tr sr (by omega)
    have hcmp : lt x.key e.key = true ∨ (lt x.key e.key = false ∧ lt e.key x.key = true) ∨ (lt x.key e.key = false ∧ lt e.key x.key = false ∧ x.key = e.key) := by
      cases c1 : lt x.key e.key
      · cases c2 : lt e.key x.key
        · exact .inr (.inr ⟨rfl, rfl, lt_tri c1 c2⟩)
        · exact .inr (.inl ⟨rfl, rfl⟩)
      · exact .inl rfl
    have HIL := Lib.hid ihl
    have HIR := Lib.hid ihr
    have HM := Lib.hid (And.intro m1 m2)
    have HH := Lib.hid hh
    have HS := Lib.hid hS
    clear ihl ihr m1 m2 m3 hS hS' hh
    show Calls _ _ #[.pointer (some ⟨b, 0, none⟩), _, _] _ _
    rcases hcmp with c1 | ⟨c1, c2⟩ | ⟨c1, c2, c3⟩
    · have k1 := lt_bytes c1
      have z0 := blk_cell h0 0
      have z1 := blk_cell h0 1
      have z2 := blk_cell h0 2
      have z3 := blk_cell h0 3
      have z4 := blk_cell h0 4
      have z5 := blk_cell h0 5
      have z6 := blk_cell h0 6
      have z7 := blk_cell h0 7
      simp only [List.getElem?_toArray, List.getElem?_cons_zero, List.getElem?_cons_succ] at z0 z1 z2 z3 z4 z5 z6 z7
      have lb := blk_lt h0
      go_enter Try.func140, Try.ntmps140
      go_wp2_with fail
      clear z0 z1 z2 z3 z4 z5 z6 z7 lb
      have Bw := Lib.hid (show Below w.heap.size w (w.alloc (.cells #[.string x.key, .string x.val, .int .i64 x.made, .int .i64 x.mod] 62)) from below_alloc (Below.refl _ _) (.cells #[.string x.key, .string x.val, .int .i64 x.made, .int .i64 x.mod] 62))
      have HP := Lib.hid (heap_alloc_new w (.cells #[.string x.key, .string x.val, .int .i64 x.made, .int .i64 x.mod] 62))
      have H0 := Lib.hid (blk_alloc h0 (.cells #[.string x.key, .string x.val, .int .i64 x.made, .int .i64 x.mod] 62))
      have IL := Lib.hid (AT.In.below Bw.out hl)
      have IR := Lib.hid (AT.In.below Bw.out hr)
      generalize w.alloc (.cells #[.string x.key, .string x.val, .int .i64 x.made, .int .i64 x.mod] 62) = w1 at *
      have hSB := Lib.hid (show ∀ W, Below w1.heap.size w1 W → (fun W => W.cell? ⟨b, 0, none⟩ = some (.string e.key) ∧ W.cell? ⟨b, 1, none⟩ = some (.string e.key) ∧ W.cell? ⟨b, 2, none⟩ = some (.string e.val) ∧ W.cell? ⟨b, 3, none⟩ = some (.int .i64 e.made) ∧ W.cell? ⟨b, 4, none⟩ = some (.int .i64 e.mod) ∧ W.cell? ⟨b, 5, none⟩ = some (.pointer l.adr) ∧ W.cell? ⟨b, 6, none⟩ = some (.pointer r.adr) ∧ W.cell? ⟨b, 7, none⟩ = some (.int .i64 h) ∧ W.cell? ⟨w.heap.size, 0, none⟩ = some (.string x.key) ∧ W.cell? ⟨w.heap.size, 1, none⟩ = some (.string x.val) ∧ W.cell? ⟨w.heap.size, 2, none⟩ = some (.int .i64 x.made) ∧ W.cell? ⟨w.heap.size, 3, none⟩ = some (.int .i64 x.mod)) W from fun W hW => ⟨(hW.cell (p := ⟨b, 0, none⟩) (blk_lt H0.out)).trans ((blk_cell H0.out 0).trans rfl), (hW.cell (p := ⟨b, 1, none⟩) (blk_lt H0.out)).trans ((blk_cell H0.out 1).trans rfl), (hW.cell (p := ⟨b, 2, none⟩) (blk_lt H0.out)).trans ((blk_cell H0.out 2).trans rfl), (hW.cell (p := ⟨b, 3, none⟩) (blk_lt H0.out)).trans ((blk_cell H0.out 3).trans rfl), (hW.cell (p := ⟨b, 4, none⟩) (blk_lt H0.out)).trans ((blk_cell H0.out 4).trans rfl), (hW.cell (p := ⟨b, 5, none⟩) (blk_lt H0.out)).trans ((blk_cell H0.out 5).trans rfl), (hW.cell (p := ⟨b, 6, none⟩) (blk_lt H0.out)).trans ((blk_cell H0.out 6).trans rfl), (hW.cell (p := ⟨b, 7, none⟩) (blk_lt H0.out)).trans ((blk_cell H0.out 7).trans rfl), (hW.cell (p := ⟨w.heap.size, 0, none⟩) (blk_lt HP.out)).trans ((blk_cell HP.out 0).trans rfl), (hW.cell (p := ⟨w.heap.size, 1, none⟩) (blk_lt HP.out)).trans ((blk_cell HP.out 1).trans rfl), (hW.cell (p := ⟨w.heap.size, 2, none⟩) (blk_lt HP.out)).trans ((blk_cell HP.out 2).trans rfl), (hW.cell (p := ⟨w.heap.size, 3, none⟩) (blk_lt HP.out)).trans ((blk_cell HP.out 3).trans rfl)⟩)
      have hB0 := Lib.hid (Below.refl w1.heap.size w1)
      have hB1 := Lib.hid (show Below w1.heap.size w1 w1.drew from below_drew hB0.out)
      refine wp_region_noPanic ?_
      refine wp_region_held_drew (S := fun W => W.cell? ⟨b, 0, none⟩ = some (.string e.key) ∧ W.cell? ⟨b, 1, none⟩ = some (.string e.key) ∧ W.cell? ⟨b, 2, none⟩ = some (.string e.val) ∧ W.cell? ⟨b, 3, none⟩ = some (.int .i64 e.made) ∧ W.cell? ⟨b, 4, none⟩ = some (.int .i64 e.mod) ∧ W.cell? ⟨b, 5, none⟩ = some (.pointer l.adr) ∧ W.cell? ⟨b, 6, none⟩ = some (.pointer r.adr) ∧ W.cell? ⟨b, 7, none⟩ = some (.int .i64 h) ∧ W.cell? ⟨w.heap.size, 0, none⟩ = some (.string x.key) ∧ W.cell? ⟨w.heap.size, 1, none⟩ = some (.string x.val) ∧ W.cell? ⟨w.heap.size, 2, none⟩ = some (.int .i64 x.made) ∧ W.cell? ⟨w.heap.size, 3, none⟩ = some (.int .i64 x.mod)) (by kernel_rfl) (hSB.out _ hB1.out) (fun hHeld => ?_)
      refine wTake 0 ?_
      refine wTake 1 ?_
      refine wTake 2 ?_
      refine wTake 3 ?_
      refine wTake 4 ?_
      refine wTake 5 ?_
      refine wTake 6 ?_
      refine wTake 8 ?_
      refine wTake 9 ?_
      refine wTake 10 ?_
      refine wTake 11 ?_
      try simp only [Act.put, List.setIfInBounds_toArray, List.set_cons_zero, List.set_cons_succ]
      refine wpAnyH_ready (rs := [7]) (by kernel_rfl) (by simp) (AllReadyH.cons rfl (fun K hK => ?_) AllReadyH.nil)
      go_simp
      refine (HIL.out _ (AT.In.below hB1.out IL.out)).mono ?_
      rintro z x2 ⟨t1, rfl, i1, tl1, row1, hb⟩
      have hB2 := Lib.hid (below_next0 hB1.out hb)
      have It1_2 := Lib.hid i1
      have T1 := Lib.hid tl1
      have R1 := Lib.hid row1
      clear tl1 row1
      clear hb i1
      go_wp2_with fail
      refine hK.out _ _ (hSB.out _ hB2.out) (fun hHeld => ?_)
      clear hK K
      try simp only [Act.put, List.setIfInBounds_toArray, List.set_cons_zero, List.set_cons_succ]
      refine wpAnyH_ready (rs := [12]) (by kernel_rfl) (by simp) (AllReadyH.cons rfl (fun K hK => ?_) AllReadyH.nil)
      go_simp
      refine (level_any b e l.adr r.adr h t1 r _ ((hB2.out.block _ (blk_lt H0.out)).trans H0.out) It1_2.out (AT.In.below hB2.out IR.out) T1.out tr (by rw [R1.out]; have := ins_le (x := x) sl; omega)).mono ?_
      rintro z x3 ⟨t2, rfl, i2, tl2, row2, hb⟩
      have hB3 := Lib.hid (below_next0 hB2.out hb)
      have It1_3 := Lib.hid (AT.In.below hb It1_2.out)
      have It2_3 := Lib.hid i2
      have T2 := Lib.hid tl2
      have R2 := Lib.hid row2
      clear tl2 row2
      clear hb i2
      go_wp2_with fail
      refine hK.out _ _ (hSB.out _ hB3.out) (fun hHeld => ?_)
      clear hK K
      try simp only [Act.put, List.setIfInBounds_toArray, List.set_cons_zero, List.set_cons_succ]
      refine wTake 13 ?_
      try simp only [Act.put, List.setIfInBounds_toArray, List.set_cons_zero, List.set_cons_succ]
      refine wpAnyH_done (by kernel_rfl) ?_ _
      refine NoPanic.normal ?_
      clear hHeld
      go_wp2
      go_ret
      exact ⟨t2, rfl, It2_3.out, T2.out, (R2.out.trans (by rw [R1.out])).trans (ins_left c1 _).symm, Bw.out.trans (hB3.out.mono Bw.out.size)⟩
    · have k1 := lt_bytes c1
      have k2 := lt_bytes c2
      have k3 := beq_ne (lt_ne c2).symm
      have z0 := blk_cell h0 0
      have z1 := blk_cell h0 1
      have z2 := blk_cell h0 2
      have z3 := blk_cell h0 3
      have z4 := blk_cell h0 4
      have z5 := blk_cell h0 5
      have z6 := blk_cell h0 6
      have z7 := blk_cell h0 7
      simp only [List.getElem?_toArray, List.getElem?_cons_zero, List.getElem?_cons_succ] at z0 z1 z2 z3 z4 z5 z6 z7
      have lb := blk_lt h0
      go_enter Try.func140, Try.ntmps140
      go_wp2_with fail
      clear z0 z1 z2 z3 z4 z5 z6 z7 lb
      have Bw := Lib.hid (show Below w.heap.size w (w.alloc (.cells #[.string x.key, .string x.val, .int .i64 x.made, .int .i64 x.mod] 62)) from below_alloc (Below.refl _ _) (.cells #[.string x.key, .string x.val, .int .i64 x.made, .int .i64 x.mod] 62))
      have HP := Lib.hid (heap_alloc_new w (.cells #[.string x.key, .string x.val, .int .i64 x.made, .int .i64 x.mod] 62))
      have H0 := Lib.hid (blk_alloc h0 (.cells #[.string x.key, .string x.val, .int .i64 x.made, .int .i64 x.mod] 62))
      have IL := Lib.hid (AT.In.below Bw.out hl)
      have IR := Lib.hid (AT.In.below Bw.out hr)
      generalize w.alloc (.cells #[.string x.key, .string x.val, .int .i64 x.made, .int .i64 x.mod] 62) = w1 at *
      have hSB := Lib.hid (show ∀ W, Below w1.heap.size w1 W → (fun W => W.cell? ⟨b, 0, none⟩ = some (.string e.key) ∧ W.cell? ⟨b, 1, none⟩ = some (.string e.key) ∧ W.cell? ⟨b, 2, none⟩ = some (.string e.val) ∧ W.cell? ⟨b, 3, none⟩ = some (.int .i64 e.made) ∧ W.cell? ⟨b, 4, none⟩ = some (.int .i64 e.mod) ∧ W.cell? ⟨b, 5, none⟩ = some (.pointer l.adr) ∧ W.cell? ⟨b, 6, none⟩ = some (.pointer r.adr) ∧ W.cell? ⟨b, 7, none⟩ = some (.int .i64 h) ∧ W.cell? ⟨w.heap.size, 0, none⟩ = some (.string x.key) ∧ W.cell? ⟨w.heap.size, 1, none⟩ = some (.string x.val) ∧ W.cell? ⟨w.heap.size, 2, none⟩ = some (.int .i64 x.made) ∧ W.cell? ⟨w.heap.size, 3, none⟩ = some (.int .i64 x.mod)) W from fun W hW => ⟨(hW.cell (p := ⟨b, 0, none⟩) (blk_lt H0.out)).trans ((blk_cell H0.out 0).trans rfl), (hW.cell (p := ⟨b, 1, none⟩) (blk_lt H0.out)).trans ((blk_cell H0.out 1).trans rfl), (hW.cell (p := ⟨b, 2, none⟩) (blk_lt H0.out)).trans ((blk_cell H0.out 2).trans rfl), (hW.cell (p := ⟨b, 3, none⟩) (blk_lt H0.out)).trans ((blk_cell H0.out 3).trans rfl), (hW.cell (p := ⟨b, 4, none⟩) (blk_lt H0.out)).trans ((blk_cell H0.out 4).trans rfl), (hW.cell (p := ⟨b, 5, none⟩) (blk_lt H0.out)).trans ((blk_cell H0.out 5).trans rfl), (hW.cell (p := ⟨b, 6, none⟩) (blk_lt H0.out)).trans ((blk_cell H0.out 6).trans rfl), (hW.cell (p := ⟨b, 7, none⟩) (blk_lt H0.out)).trans ((blk_cell H0.out 7).trans rfl), (hW.cell (p := ⟨w.heap.size, 0, none⟩) (blk_lt HP.out)).trans ((blk_cell HP.out 0).trans rfl), (hW.cell (p := ⟨w.heap.size, 1, none⟩) (blk_lt HP.out)).trans ((blk_cell HP.out 1).trans rfl), (hW.cell (p := ⟨w.heap.size, 2, none⟩) (blk_lt HP.out)).trans ((blk_cell HP.out 2).trans rfl), (hW.cell (p := ⟨w.heap.size, 3, none⟩) (blk_lt HP.out)).trans ((blk_cell HP.out 3).trans rfl)⟩)
      have hB0 := Lib.hid (Below.refl w1.heap.size w1)
      have hB1 := Lib.hid (show Below w1.heap.size w1 w1.drew from below_drew hB0.out)
      refine wp_region_noPanic ?_
      refine wp_region_held_drew (S := fun W => W.cell? ⟨b, 0, none⟩ = some (.string e.key) ∧ W.cell? ⟨b, 1, none⟩ = some (.string e.key) ∧ W.cell? ⟨b, 2, none⟩ = some (.string e.val) ∧ W.cell? ⟨b, 3, none⟩ = some (.int .i64 e.made) ∧ W.cell? ⟨b, 4, none⟩ = some (.int .i64 e.mod) ∧ W.cell? ⟨b, 5, none⟩ = some (.pointer l.adr) ∧ W.cell? ⟨b, 6, none⟩ = some (.pointer r.adr) ∧ W.cell? ⟨b, 7, none⟩ = some (.int .i64 h) ∧ W.cell? ⟨w.heap.size, 0, none⟩ = some (.string x.key) ∧ W.cell? ⟨w.heap.size, 1, none⟩ = some (.string x.val) ∧ W.cell? ⟨w.heap.size, 2, none⟩ = some (.int .i64 x.made) ∧ W.cell? ⟨w.heap.size, 3, none⟩ = some (.int .i64 x.mod)) (by kernel_rfl) (hSB.out _ hB1.out) (fun hHeld => ?_)
      refine wTake 0 ?_
      refine wTake 1 ?_
      refine wTake 2 ?_
      refine wTake 3 ?_
      refine wTake 4 ?_
      refine wTake 5 ?_
      refine wTake 6 ?_
      refine wTake 7 ?_
      refine wTake 8 ?_
      refine wTake 9 ?_
      refine wTake 10 ?_
      try simp only [Act.put, List.setIfInBounds_toArray, List.set_cons_zero, List.set_cons_succ]
      refine wpAnyH_ready (rs := [11]) (by kernel_rfl) (by simp) (AllReadyH.cons rfl (fun K hK => ?_) AllReadyH.nil)
      go_simp
      refine (HIR.out _ (AT.In.below hB1.out IR.out)).mono ?_
      rintro z x2 ⟨t1, rfl, i1, tl1, row1, hb⟩
      have hB2 := Lib.hid (below_next0 hB1.out hb)
      have It1_2 := Lib.hid i1
      have T1 := Lib.hid tl1
      have R1 := Lib.hid row1
      clear tl1 row1
      clear hb i1
      go_wp2_with fail
      refine hK.out _ _ (hSB.out _ hB2.out) (fun hHeld => ?_)
      clear hK K
      try simp only [Act.put, List.setIfInBounds_toArray, List.set_cons_zero, List.set_cons_succ]
      refine wpAnyH_ready (rs := [12]) (by kernel_rfl) (by simp) (AllReadyH.cons rfl (fun K hK => ?_) AllReadyH.nil)
      go_simp
      refine (level_any b e l.adr r.adr h l t1 _ ((hB2.out.block _ (blk_lt H0.out)).trans H0.out) (AT.In.below hB2.out IL.out) It1_2.out tl T1.out (by rw [R1.out]; have := ins_le (x := x) sr; omega)).mono ?_
      rintro z x3 ⟨t2, rfl, i2, tl2, row2, hb⟩
      have hB3 := Lib.hid (below_next0 hB2.out hb)
      have It1_3 := Lib.hid (AT.In.below hb It1_2.out)
      have It2_3 := Lib.hid i2
      have T2 := Lib.hid tl2
      have R2 := Lib.hid row2
      clear tl2 row2
      clear hb i2
      go_wp2_with fail
      refine hK.out _ _ (hSB.out _ hB3.out) (fun hHeld => ?_)
      clear hK K
      try simp only [Act.put, List.setIfInBounds_toArray, List.set_cons_zero, List.set_cons_succ]
      refine wTake 13 ?_
      try simp only [Act.put, List.setIfInBounds_toArray, List.set_cons_zero, List.set_cons_succ]
      refine wpAnyH_done (by kernel_rfl) ?_ _
      refine NoPanic.normal ?_
      clear hHeld
      go_wp2
      go_ret
      exact ⟨t2, rfl, It2_3.out, T2.out, (R2.out.trans (by rw [R1.out])).trans (ins_right c2 _ HM.out.1).symm, Bw.out.trans (hB3.out.mono Bw.out.size)⟩
    · have k1 := lt_bytes c1
      have k2 := lt_bytes c2
      have k3 := beq_same c3
      have C3 := Lib.hid c3
      clear c3
      have z0 := blk_cell h0 0
      have z1 := blk_cell h0 1
      have z2 := blk_cell h0 2
      have z3 := blk_cell h0 3
      have z4 := blk_cell h0 4
      have z5 := blk_cell h0 5
      have z6 := blk_cell h0 6
      have z7 := blk_cell h0 7
      simp only [List.getElem?_toArray, List.getElem?_cons_zero, List.getElem?_cons_succ] at z0 z1 z2 z3 z4 z5 z6 z7
      have lb := blk_lt h0
      go_enter Try.func140, Try.ntmps140
      go_wp2_with fail
      clear z0 z1 z2 z3 z4 z5 z6 z7 lb
      have Bw := Lib.hid (show Below w.heap.size w (w.alloc (.cells #[.string x.key, .string x.val, .int .i64 x.made, .int .i64 x.mod] 62)) from below_alloc (Below.refl _ _) (.cells #[.string x.key, .string x.val, .int .i64 x.made, .int .i64 x.mod] 62))
      have HP := Lib.hid (heap_alloc_new w (.cells #[.string x.key, .string x.val, .int .i64 x.made, .int .i64 x.mod] 62))
      have H0 := Lib.hid (blk_alloc h0 (.cells #[.string x.key, .string x.val, .int .i64 x.made, .int .i64 x.mod] 62))
      have IL := Lib.hid (AT.In.below Bw.out hl)
      have IR := Lib.hid (AT.In.below Bw.out hr)
      generalize w.alloc (.cells #[.string x.key, .string x.val, .int .i64 x.made, .int .i64 x.mod] 62) = w1 at *
      have hSB := Lib.hid (show ∀ W, Below w1.heap.size w1 W → (fun W => W.cell? ⟨b, 0, none⟩ = some (.string e.key) ∧ W.cell? ⟨b, 1, none⟩ = some (.string e.key) ∧ W.cell? ⟨b, 2, none⟩ = some (.string e.val) ∧ W.cell? ⟨b, 3, none⟩ = some (.int .i64 e.made) ∧ W.cell? ⟨b, 4, none⟩ = some (.int .i64 e.mod) ∧ W.cell? ⟨b, 5, none⟩ = some (.pointer l.adr) ∧ W.cell? ⟨b, 6, none⟩ = some (.pointer r.adr) ∧ W.cell? ⟨b, 7, none⟩ = some (.int .i64 h) ∧ W.cell? ⟨w.heap.size, 0, none⟩ = some (.string x.key) ∧ W.cell? ⟨w.heap.size, 1, none⟩ = some (.string x.val) ∧ W.cell? ⟨w.heap.size, 2, none⟩ = some (.int .i64 x.made) ∧ W.cell? ⟨w.heap.size, 3, none⟩ = some (.int .i64 x.mod)) W from fun W hW => ⟨(hW.cell (p := ⟨b, 0, none⟩) (blk_lt H0.out)).trans ((blk_cell H0.out 0).trans rfl), (hW.cell (p := ⟨b, 1, none⟩) (blk_lt H0.out)).trans ((blk_cell H0.out 1).trans rfl), (hW.cell (p := ⟨b, 2, none⟩) (blk_lt H0.out)).trans ((blk_cell H0.out 2).trans rfl), (hW.cell (p := ⟨b, 3, none⟩) (blk_lt H0.out)).trans ((blk_cell H0.out 3).trans rfl), (hW.cell (p := ⟨b, 4, none⟩) (blk_lt H0.out)).trans ((blk_cell H0.out 4).trans rfl), (hW.cell (p := ⟨b, 5, none⟩) (blk_lt H0.out)).trans ((blk_cell H0.out 5).trans rfl), (hW.cell (p := ⟨b, 6, none⟩) (blk_lt H0.out)).trans ((blk_cell H0.out 6).trans rfl), (hW.cell (p := ⟨b, 7, none⟩) (blk_lt H0.out)).trans ((blk_cell H0.out 7).trans rfl), (hW.cell (p := ⟨w.heap.size, 0, none⟩) (blk_lt HP.out)).trans ((blk_cell HP.out 0).trans rfl), (hW.cell (p := ⟨w.heap.size, 1, none⟩) (blk_lt HP.out)).trans ((blk_cell HP.out 1).trans rfl), (hW.cell (p := ⟨w.heap.size, 2, none⟩) (blk_lt HP.out)).trans ((blk_cell HP.out 2).trans rfl), (hW.cell (p := ⟨w.heap.size, 3, none⟩) (blk_lt HP.out)).trans ((blk_cell HP.out 3).trans rfl)⟩)
      have hB0 := Lib.hid (Below.refl w1.heap.size w1)
      have hB1 := Lib.hid (show Below w1.heap.size w1 w1.drew from below_drew hB0.out)
      refine wp_region_noPanic ?_
      refine wp_region_held_drew (S := fun W => W.cell? ⟨b, 0, none⟩ = some (.string e.key) ∧ W.cell? ⟨b, 1, none⟩ = some (.string e.key) ∧ W.cell? ⟨b, 2, none⟩ = some (.string e.val) ∧ W.cell? ⟨b, 3, none⟩ = some (.int .i64 e.made) ∧ W.cell? ⟨b, 4, none⟩ = some (.int .i64 e.mod) ∧ W.cell? ⟨b, 5, none⟩ = some (.pointer l.adr) ∧ W.cell? ⟨b, 6, none⟩ = some (.pointer r.adr) ∧ W.cell? ⟨b, 7, none⟩ = some (.int .i64 h) ∧ W.cell? ⟨w.heap.size, 0, none⟩ = some (.string x.key) ∧ W.cell? ⟨w.heap.size, 1, none⟩ = some (.string x.val) ∧ W.cell? ⟨w.heap.size, 2, none⟩ = some (.int .i64 x.made) ∧ W.cell? ⟨w.heap.size, 3, none⟩ = some (.int .i64 x.mod)) (by kernel_rfl) (hSB.out _ hB1.out) (fun hHeld => ?_)
      refine wTake 0 ?_
      refine wTake 1 ?_
      refine wTake 2 ?_
      refine wTake 3 ?_
      refine wTake 4 ?_
      refine wTake 5 ?_
      refine wTake 6 ?_
      refine wTake 7 ?_
      refine wTake 8 ?_
      refine wTake 9 ?_
      refine wTake 10 ?_
      refine wTake 11 ?_
      refine wTake 12 ?_
      refine wTake 13 ?_
      refine wTake 14 ?_
      try simp only [Act.put, List.setIfInBounds_toArray, List.set_cons_zero, List.set_cons_succ]
      refine wpAnyH_ready (rs := [15]) (by kernel_rfl) (by simp) (AllReadyH.cons rfl (fun K hK => ?_) AllReadyH.nil)
      go_simp
      obtain ⟨g, hg⟩ : ∃ X, X = w1.drew.heap.size := ⟨_, rfl⟩
      go_wp2_with fail
      have eg : w1.heap.size = g := hg.symm
      rw [eg]
      have lg : w1.heap.size ≤ g := by rw [hg]; exact hB1.out.size
      have hB2 := Lib.hid (show Below w1.heap.size w1 (w1.alloc (.cells #[.string x.key, .string x.key, .string x.val, .int .i64 x.made, .int .i64 x.mod, .pointer l.adr, .pointer r.adr, .int .i64 h] 218)).drew from below_alloc hB1.out (.cells #[.string x.key, .string x.key, .string x.val, .int .i64 x.made, .int .i64 x.mod, .pointer l.adr, .pointer r.adr, .int .i64 h] 218))
      have Hg_2 := Lib.hid (show (w1.alloc (.cells #[.string x.key, .string x.key, .string x.val, .int .i64 x.made, .int .i64 x.mod, .pointer l.adr, .pointer r.adr, .int .i64 h] 218)).drew.heap[g]? = some (.cells #[.string x.key, .string x.key, .string x.val, .int .i64 x.made, .int .i64 x.mod, .pointer l.adr, .pointer r.adr, .int .i64 h] 218 (0, 0)) from hg ▸ heap_alloc_new w1.drew (.cells #[.string x.key, .string x.key, .string x.val, .int .i64 x.made, .int .i64 x.mod, .pointer l.adr, .pointer r.adr, .int .i64 h] 218))
      clear eg hg
      generalize (w1.alloc (.cells #[.string x.key, .string x.key, .string x.val, .int .i64 x.made, .int .i64 x.mod, .pointer l.adr, .pointer r.adr, .int .i64 h] 218)).drew = x2 at *
      refine hK.out _ _ (hSB.out _ hB2.out) (fun hHeld => ?_)
      clear hK K
      try simp only [Act.put, List.setIfInBounds_toArray, List.set_cons_zero, List.set_cons_succ]
      refine wTake 16 ?_
      try simp only [Act.put, List.setIfInBounds_toArray, List.set_cons_zero, List.set_cons_succ]
      refine wpAnyH_done (by kernel_rfl) ?_ _
      refine NoPanic.normal ?_
      clear hHeld
      go_wp2
      go_ret
      exact ⟨AT.node g x l r h, rfl, ⟨Hg_2.out, (AT.In.below hB2.out IL.out), (AT.In.below hB2.out IR.out)⟩, ⟨HH.out, tl, tr⟩, (ins_here C3.out _ HM.out.1).symm, Bw.out.trans (hB2.out.mono Bw.out.size)⟩
theorem adr_node (b : Nat) (e : Ent) (l r : AT) (h : Int) : (AT.node b e l r h).adr = some ⟨b, 0, none⟩ := rfl
set_option maxHeartbeats 2000000 in
set_option maxRecDepth 100000 in
theorem least_any (t : AT) (hne : t ≠ AT.nil) (w : World) (ht : t.In w) : Calls Try.prog 204 #[.pointer t.adr] w fun z w' => ∃ g y zl zr hz rest, z = .returned (.pointer (some ⟨g, 0, none⟩)) ∧ w'.heap[g]? = some (.cells #[.string y.key, .string y.key, .string y.val, .int .i64 y.made, .int .i64 y.mod, .pointer zl, .pointer zr, .int .i64 hz] 218 (0, 0)) ∧ t.row = y :: rest ∧ Below w.heap.size w w' := by
  go_enter Try.func204, Try.ntmps204
  go_wp2_with fail
  go_loopg [0] t.depth (fun k p wr => ∃ (s : AT) (rest : List Ent), s ≠ AT.nil ∧ p = .pointer s.adr ∧ s.In wr ∧ t.row = s.row ++ rest ∧ s.depth ≤ k ∧ Below w.heap.size w wr)
  case atStart => exact ⟨t, [], hne, rfl, ht, by simp, Nat.le_refl _, Below.refl _ _⟩
  case round =>
    obtain ⟨s, rest, hs, rfl, hi, hrow, hd, hbw⟩ := hrel
    cases s with
    | nil => exact absurd rfl hs
    | node b e l r h =>
      obtain ⟨h0, il, ir⟩ := hi
      have IL := Lib.hid il
      have HROW := Lib.hid hrow
      have HD := Lib.hid hd
      have HNE := Lib.hid hne
      clear il ir hrow hd hne hs
      show _
      cases l with
      | nil =>
        have H0 := Lib.hid h0
        have z5 : wr.cell? ⟨b, 5, none⟩ = some (.pointer none) := (blk_cell h0 5).trans rfl
        clear h0
        simp only [adr_node]
        go_wp2
        go_ret
        exact ⟨b, e, _, _, _, r.row ++ rest, rfl, H0.out, by rw [HROW.out]; simp [AT.row], hbw⟩
      | node b2 e2 l2 r2 h2 =>
        have z5 : wr.cell? ⟨b, 5, none⟩ = some (.pointer (some ⟨b2, 0, none⟩)) := (blk_cell h0 5).trans rfl
        clear h0
        simp only [adr_node]
        go_wp2_with fail
        go_roundg (AT.node b2 e2 l2 r2 h2).depth
        case measure => have := HD.out; rw [AT.depth_node] at this; omega
        case rel => exact ⟨AT.node b2 e2 l2 r2 h2, e :: r.row ++ rest, by simp, rfl, IL.out, by rw [HROW.out]; simp [AT.row], Nat.le_refl _, hbw⟩
set_option maxHeartbeats 2000000 in
set_option maxRecDepth 100000 in
theorem drop_any : ∀ (t : AT) (k : ByteArray) (w : World), t.In w → t.Tall → Srt t.row → t.row.length ≤ 300000000 →
    Calls Try.prog 174 #[.pointer t.adr, .string k] w fun z w' => ∃ t' : AT, z = .returned (.pointer t'.adr) ∧ t'.In w' ∧ t'.Tall ∧ t'.row = delL k t.row ∧ Below w.heap.size w w' := by
  intro t
  induction t with
  | nil =>
    intro k w _ _ _ _
    show Calls _ _ #[.pointer none, _] _ _
    go_enter Try.func174, Try.ntmps174
    go_wp2
    go_ret
    exact ⟨AT.nil, rfl, trivial, trivial, rfl, Below.refl _ _⟩
  | node b e l r h ihl ihr =>
    intro k w ht hT hS hn
    obtain ⟨h0, hl, hr⟩ := ht
    obtain ⟨hh, tl, tr⟩ := hT
    obtain ⟨sl, sr, m1, m2, m3⟩ := srt_mid.1 hS
    simp only [AT.row, List.length_append, List.length_cons] at hn
    have ihl := fun k W hW => ihl k W hW tl sl (by omega)
    have ihr := fun k W hW => ihr k W hW tr sr (by omega)
    have hcmp : lt k e.key = true ∨ (lt k e.key = false ∧ lt e.key k = true) ∨ (lt k e.key = false ∧ lt e.key k = false ∧ k = e.key) := by
      cases c1 : lt k e.key
      · cases c2 : lt e.key k
        · exact .inr (.inr ⟨rfl, rfl, lt_tri c1 c2⟩)
        · exact .inr (.inl ⟨rfl, rfl⟩)
      · exact .inl rfl
    have HIL := Lib.hid ihl
    have HIR := Lib.hid ihr
    have HM := Lib.hid (And.intro m1 m2)
    have HH := Lib.hid hh
    have HS := Lib.hid hS
    have IL := Lib.hid hl
    have IR := Lib.hid hr
    have H0 := Lib.hid h0
    clear ihl ihr m1 m2 m3 hS hh hl hr
    show Calls _ _ #[.pointer (some ⟨b, 0, none⟩), _] _ _
    rcases hcmp with c1 | ⟨c1, c2⟩ | ⟨c1, c2, c3⟩
    · have k1 := lt_bytes c1
      have z0 := blk_cell h0 0
      have z1 := blk_cell h0 1
      have z2 := blk_cell h0 2
      have z3 := blk_cell h0 3
      have z4 := blk_cell h0 4
      have z5 := blk_cell h0 5
      have z6 := blk_cell h0 6
      have z7 := blk_cell h0 7
      simp only [List.getElem?_toArray, List.getElem?_cons_zero, List.getElem?_cons_succ] at z0 z1 z2 z3 z4 z5 z6 z7
      have lb := blk_lt h0
      go_enter Try.func174, Try.ntmps174
      go_wp2_with fail
      clear z0 z1 z2 z3 z4 z5 z6 z7 lb
      clear h0
      have hSB := Lib.hid (show ∀ W, Below w.heap.size w W → (fun W => W.cell? ⟨b, 0, none⟩ = some (.string e.key) ∧ W.cell? ⟨b, 1, none⟩ = some (.string e.key) ∧ W.cell? ⟨b, 2, none⟩ = some (.string e.val) ∧ W.cell? ⟨b, 3, none⟩ = some (.int .i64 e.made) ∧ W.cell? ⟨b, 4, none⟩ = some (.int .i64 e.mod) ∧ W.cell? ⟨b, 5, none⟩ = some (.pointer l.adr) ∧ W.cell? ⟨b, 6, none⟩ = some (.pointer r.adr) ∧ W.cell? ⟨b, 7, none⟩ = some (.int .i64 h)) W from fun W hW => ⟨(hW.cell (p := ⟨b, 0, none⟩) (blk_lt H0.out)).trans ((blk_cell H0.out 0).trans rfl), (hW.cell (p := ⟨b, 1, none⟩) (blk_lt H0.out)).trans ((blk_cell H0.out 1).trans rfl), (hW.cell (p := ⟨b, 2, none⟩) (blk_lt H0.out)).trans ((blk_cell H0.out 2).trans rfl), (hW.cell (p := ⟨b, 3, none⟩) (blk_lt H0.out)).trans ((blk_cell H0.out 3).trans rfl), (hW.cell (p := ⟨b, 4, none⟩) (blk_lt H0.out)).trans ((blk_cell H0.out 4).trans rfl), (hW.cell (p := ⟨b, 5, none⟩) (blk_lt H0.out)).trans ((blk_cell H0.out 5).trans rfl), (hW.cell (p := ⟨b, 6, none⟩) (blk_lt H0.out)).trans ((blk_cell H0.out 6).trans rfl), (hW.cell (p := ⟨b, 7, none⟩) (blk_lt H0.out)).trans ((blk_cell H0.out 7).trans rfl)⟩)
      have hB0 := Lib.hid (Below.refl w.heap.size w)
      have hB1 := Lib.hid (show Below w.heap.size w w.drew from below_drew hB0.out)
      refine wp_region_noPanic ?_
      refine wp_region_held_drew (S := fun W => W.cell? ⟨b, 0, none⟩ = some (.string e.key) ∧ W.cell? ⟨b, 1, none⟩ = some (.string e.key) ∧ W.cell? ⟨b, 2, none⟩ = some (.string e.val) ∧ W.cell? ⟨b, 3, none⟩ = some (.int .i64 e.made) ∧ W.cell? ⟨b, 4, none⟩ = some (.int .i64 e.mod) ∧ W.cell? ⟨b, 5, none⟩ = some (.pointer l.adr) ∧ W.cell? ⟨b, 6, none⟩ = some (.pointer r.adr) ∧ W.cell? ⟨b, 7, none⟩ = some (.int .i64 h)) (by kernel_rfl) (hSB.out _ hB1.out) (fun hHeld => ?_)
      refine wTake 0 ?_
      refine wTake 1 ?_
      refine wTake 2 ?_
      refine wTake 3 ?_
      refine wTake 4 ?_
      refine wTake 5 ?_
      refine wTake 7 ?_
      refine wTake 8 ?_
      refine wTake 9 ?_
      refine wTake 10 ?_
      try simp only [Act.put, List.setIfInBounds_toArray, List.set_cons_zero, List.set_cons_succ]
      refine wpAnyH_ready (rs := [6]) (by kernel_rfl) (by simp) (AllReadyH.cons rfl (fun K hK => ?_) AllReadyH.nil)
      go_simp
      refine (HIL.out _ _ (AT.In.below hB1.out IL.out)).mono ?_
      rintro z x2 ⟨t1, rfl, i1, tl1, row1, hb⟩
      have hB2 := Lib.hid (below_next0 hB1.out hb)
      have It1_2 := Lib.hid i1
      have T1 := Lib.hid tl1
      have R1 := Lib.hid row1
      clear tl1 row1
      clear hb i1
      go_wp2_with fail
      refine hK.out _ _ (hSB.out _ hB2.out) (fun hHeld => ?_)
      clear hK K
      try simp only [Act.put, List.setIfInBounds_toArray, List.set_cons_zero, List.set_cons_succ]
      refine wpAnyH_ready (rs := [11]) (by kernel_rfl) (by simp) (AllReadyH.cons rfl (fun K hK => ?_) AllReadyH.nil)
      go_simp
      refine (level_any b e l.adr r.adr h t1 r _ ((hB2.out.block _ (blk_lt H0.out)).trans H0.out) It1_2.out (AT.In.below hB2.out IR.out) T1.out tr (by rw [R1.out]; have := del_le k l.row; omega)).mono ?_
      rintro z x3 ⟨t2, rfl, i2, tl2, row2, hb⟩
      have hB3 := Lib.hid (below_next0 hB2.out hb)
      have It1_3 := Lib.hid (AT.In.below hb It1_2.out)
      have It2_3 := Lib.hid i2
      have T2 := Lib.hid tl2
      have R2 := Lib.hid row2
      clear tl2 row2
      clear hb i2
      go_wp2_with fail
      refine hK.out _ _ (hSB.out _ hB3.out) (fun hHeld => ?_)
      clear hK K
      try simp only [Act.put, List.setIfInBounds_toArray, List.set_cons_zero, List.set_cons_succ]
      refine wTake 12 ?_
      try simp only [Act.put, List.setIfInBounds_toArray, List.set_cons_zero, List.set_cons_succ]
      refine wpAnyH_done (by kernel_rfl) ?_ _
      refine NoPanic.normal ?_
      clear hHeld
      go_wp2
      go_ret
      exact ⟨t2, rfl, It2_3.out, T2.out, (R2.out.trans (by rw [R1.out])).trans (del_left c1 HS.out).symm, hB3.out⟩
    · have k1 := lt_bytes c1
      have k2 := lt_bytes c2
      have k3 := beq_ne (lt_ne c2).symm
      have z0 := blk_cell h0 0
      have z1 := blk_cell h0 1
      have z2 := blk_cell h0 2
      have z3 := blk_cell h0 3
      have z4 := blk_cell h0 4
      have z5 := blk_cell h0 5
      have z6 := blk_cell h0 6
      have z7 := blk_cell h0 7
      simp only [List.getElem?_toArray, List.getElem?_cons_zero, List.getElem?_cons_succ] at z0 z1 z2 z3 z4 z5 z6 z7
      have lb := blk_lt h0
      go_enter Try.func174, Try.ntmps174
      go_wp2_with fail
      clear z0 z1 z2 z3 z4 z5 z6 z7 lb
      clear h0
      have hSB := Lib.hid (show ∀ W, Below w.heap.size w W → (fun W => W.cell? ⟨b, 0, none⟩ = some (.string e.key) ∧ W.cell? ⟨b, 1, none⟩ = some (.string e.key) ∧ W.cell? ⟨b, 2, none⟩ = some (.string e.val) ∧ W.cell? ⟨b, 3, none⟩ = some (.int .i64 e.made) ∧ W.cell? ⟨b, 4, none⟩ = some (.int .i64 e.mod) ∧ W.cell? ⟨b, 5, none⟩ = some (.pointer l.adr) ∧ W.cell? ⟨b, 6, none⟩ = some (.pointer r.adr) ∧ W.cell? ⟨b, 7, none⟩ = some (.int .i64 h)) W from fun W hW => ⟨(hW.cell (p := ⟨b, 0, none⟩) (blk_lt H0.out)).trans ((blk_cell H0.out 0).trans rfl), (hW.cell (p := ⟨b, 1, none⟩) (blk_lt H0.out)).trans ((blk_cell H0.out 1).trans rfl), (hW.cell (p := ⟨b, 2, none⟩) (blk_lt H0.out)).trans ((blk_cell H0.out 2).trans rfl), (hW.cell (p := ⟨b, 3, none⟩) (blk_lt H0.out)).trans ((blk_cell H0.out 3).trans rfl), (hW.cell (p := ⟨b, 4, none⟩) (blk_lt H0.out)).trans ((blk_cell H0.out 4).trans rfl), (hW.cell (p := ⟨b, 5, none⟩) (blk_lt H0.out)).trans ((blk_cell H0.out 5).trans rfl), (hW.cell (p := ⟨b, 6, none⟩) (blk_lt H0.out)).trans ((blk_cell H0.out 6).trans rfl), (hW.cell (p := ⟨b, 7, none⟩) (blk_lt H0.out)).trans ((blk_cell H0.out 7).trans rfl)⟩)
      have hB0 := Lib.hid (Below.refl w.heap.size w)
      have hB1 := Lib.hid (show Below w.heap.size w w.drew from below_drew hB0.out)
      refine wp_region_noPanic ?_
      refine wp_region_held_drew (S := fun W => W.cell? ⟨b, 0, none⟩ = some (.string e.key) ∧ W.cell? ⟨b, 1, none⟩ = some (.string e.key) ∧ W.cell? ⟨b, 2, none⟩ = some (.string e.val) ∧ W.cell? ⟨b, 3, none⟩ = some (.int .i64 e.made) ∧ W.cell? ⟨b, 4, none⟩ = some (.int .i64 e.mod) ∧ W.cell? ⟨b, 5, none⟩ = some (.pointer l.adr) ∧ W.cell? ⟨b, 6, none⟩ = some (.pointer r.adr) ∧ W.cell? ⟨b, 7, none⟩ = some (.int .i64 h)) (by kernel_rfl) (hSB.out _ hB1.out) (fun hHeld => ?_)
      refine wTake 0 ?_
      refine wTake 1 ?_
      refine wTake 2 ?_
      refine wTake 3 ?_
      refine wTake 4 ?_
      refine wTake 5 ?_
      refine wTake 6 ?_
      refine wTake 7 ?_
      refine wTake 8 ?_
      refine wTake 9 ?_
      try simp only [Act.put, List.setIfInBounds_toArray, List.set_cons_zero, List.set_cons_succ]
      refine wpAnyH_ready (rs := [10]) (by kernel_rfl) (by simp) (AllReadyH.cons rfl (fun K hK => ?_) AllReadyH.nil)
      go_simp
      refine (HIR.out _ _ (AT.In.below hB1.out IR.out)).mono ?_
      rintro z x2 ⟨t1, rfl, i1, tl1, row1, hb⟩
      have hB2 := Lib.hid (below_next0 hB1.out hb)
      have It1_2 := Lib.hid i1
      have T1 := Lib.hid tl1
      have R1 := Lib.hid row1
      clear tl1 row1
      clear hb i1
      go_wp2_with fail
      refine hK.out _ _ (hSB.out _ hB2.out) (fun hHeld => ?_)
      clear hK K
      try simp only [Act.put, List.setIfInBounds_toArray, List.set_cons_zero, List.set_cons_succ]
      refine wpAnyH_ready (rs := [11]) (by kernel_rfl) (by simp) (AllReadyH.cons rfl (fun K hK => ?_) AllReadyH.nil)
      go_simp
      refine (level_any b e l.adr r.adr h l t1 _ ((hB2.out.block _ (blk_lt H0.out)).trans H0.out) (AT.In.below hB2.out IL.out) It1_2.out tl T1.out (by rw [R1.out]; have := del_le k r.row; omega)).mono ?_
      rintro z x3 ⟨t2, rfl, i2, tl2, row2, hb⟩
      have hB3 := Lib.hid (below_next0 hB2.out hb)
      have It1_3 := Lib.hid (AT.In.below hb It1_2.out)
      have It2_3 := Lib.hid i2
      have T2 := Lib.hid tl2
      have R2 := Lib.hid row2
      clear tl2 row2
      clear hb i2
      go_wp2_with fail
      refine hK.out _ _ (hSB.out _ hB3.out) (fun hHeld => ?_)
      clear hK K
      try simp only [Act.put, List.setIfInBounds_toArray, List.set_cons_zero, List.set_cons_succ]
      refine wTake 12 ?_
      try simp only [Act.put, List.setIfInBounds_toArray, List.set_cons_zero, List.set_cons_succ]
      refine wpAnyH_done (by kernel_rfl) ?_ _
      refine NoPanic.normal ?_
      clear hHeld
      go_wp2
      go_ret
      exact ⟨t2, rfl, It2_3.out, T2.out, (R2.out.trans (by rw [R1.out])).trans (del_right c2 HS.out).symm, hB3.out⟩
    · have k1 := lt_bytes c1
      have k2 := lt_bytes c2
      have k3 := beq_same c3
      have C3 := Lib.hid c3
      clear c3
      have HR := Lib.hid (del_here C3.out.symm HS.out)
      cases l with
      | nil =>
        have z0 : w.cell? ⟨b, 0, none⟩ = some (.string e.key) := (blk_cell h0 0).trans rfl
        have z1 : w.cell? ⟨b, 1, none⟩ = some (.string e.key) := (blk_cell h0 1).trans rfl
        have z2 : w.cell? ⟨b, 2, none⟩ = some (.string e.val) := (blk_cell h0 2).trans rfl
        have z3 : w.cell? ⟨b, 3, none⟩ = some (.int .i64 e.made) := (blk_cell h0 3).trans rfl
        have z4 : w.cell? ⟨b, 4, none⟩ = some (.int .i64 e.mod) := (blk_cell h0 4).trans rfl
        have z5 : w.cell? ⟨b, 5, none⟩ = some (.pointer none) := (blk_cell h0 5).trans rfl
        have z6 : w.cell? ⟨b, 6, none⟩ = some (.pointer r.adr) := (blk_cell h0 6).trans rfl
        have z7 : w.cell? ⟨b, 7, none⟩ = some (.int .i64 h) := (blk_cell h0 7).trans rfl
        go_enter Try.func174, Try.ntmps174
        go_wp2
        go_ret
        exact ⟨r, rfl, IR.out, tr, HR.out.symm, Below.refl _ _⟩
      | node b2 e2 l2 r2 h2 =>
        cases r with
        | nil =>
          have z0 : w.cell? ⟨b, 0, none⟩ = some (.string e.key) := (blk_cell h0 0).trans rfl
          have z1 : w.cell? ⟨b, 1, none⟩ = some (.string e.key) := (blk_cell h0 1).trans rfl
          have z2 : w.cell? ⟨b, 2, none⟩ = some (.string e.val) := (blk_cell h0 2).trans rfl
          have z3 : w.cell? ⟨b, 3, none⟩ = some (.int .i64 e.made) := (blk_cell h0 3).trans rfl
          have z4 : w.cell? ⟨b, 4, none⟩ = some (.int .i64 e.mod) := (blk_cell h0 4).trans rfl
          have z5 : w.cell? ⟨b, 5, none⟩ = some (.pointer (some ⟨b2, 0, none⟩)) := (blk_cell h0 5).trans rfl
          have z6 : w.cell? ⟨b, 6, none⟩ = some (.pointer none) := (blk_cell h0 6).trans rfl
          have z7 : w.cell? ⟨b, 7, none⟩ = some (.int .i64 h) := (blk_cell h0 7).trans rfl
          go_enter Try.func174, Try.ntmps174
          go_wp2
          go_ret
          exact ⟨AT.node b2 e2 l2 r2 h2, rfl, IL.out, tl, by have q := HR.out; simp only [AT.row, List.append_nil] at q ⊢; exact q.symm, Below.refl _ _⟩
        | node b3 e3 l3 r3 h3 =>
          have LE := fun W hW => least_any (AT.node b3 e3 l3 r3 h3) (by simp) W hW
          have HLE := Lib.hid LE
          clear LE
          have z0 : w.cell? ⟨b, 0, none⟩ = some (.string e.key) := (blk_cell h0 0).trans rfl
          have z1 : w.cell? ⟨b, 1, none⟩ = some (.string e.key) := (blk_cell h0 1).trans rfl
          have z2 : w.cell? ⟨b, 2, none⟩ = some (.string e.val) := (blk_cell h0 2).trans rfl
          have z3 : w.cell? ⟨b, 3, none⟩ = some (.int .i64 e.made) := (blk_cell h0 3).trans rfl
          have z4 : w.cell? ⟨b, 4, none⟩ = some (.int .i64 e.mod) := (blk_cell h0 4).trans rfl
          have z5 : w.cell? ⟨b, 5, none⟩ = some (.pointer (some ⟨b2, 0, none⟩)) := (blk_cell h0 5).trans rfl
          have z6 : w.cell? ⟨b, 6, none⟩ = some (.pointer (some ⟨b3, 0, none⟩)) := (blk_cell h0 6).trans rfl
          have z7 : w.cell? ⟨b, 7, none⟩ = some (.int .i64 h) := (blk_cell h0 7).trans rfl
          go_enter Try.func174, Try.ntmps174
          go_wp2_with fail
          refine (HLE.out _ IR.out).mono ?_
          rintro z w1 ⟨g, y, zl, zr, hz, rest, rfl, hg, hrow, hb⟩
          have Bw := Lib.hid hb
          have HG := Lib.hid hg
          have HROW := Lib.hid hrow
          clear hg hrow hb
          have IL1 := Lib.hid (AT.In.below Bw.out IL.out)
          have IR1 := Lib.hid (AT.In.below Bw.out IR.out)
          have H1 := Lib.hid ((Bw.out.block _ (blk_lt h0)).trans h0)
          clear z0 z1 z2 z3 z4 z5 z6 z7
          go_wp2_with fail
          have hSB := Lib.hid (show ∀ W, Below w1.heap.size w1 W → (fun W => W.cell? ⟨b, 0, none⟩ = some (.string e.key) ∧ W.cell? ⟨b, 1, none⟩ = some (.string e.key) ∧ W.cell? ⟨b, 2, none⟩ = some (.string e.val) ∧ W.cell? ⟨b, 3, none⟩ = some (.int .i64 e.made) ∧ W.cell? ⟨b, 4, none⟩ = some (.int .i64 e.mod) ∧ W.cell? ⟨b, 5, none⟩ = some (.pointer (some ⟨b2, 0, none⟩)) ∧ W.cell? ⟨b, 6, none⟩ = some (.pointer (some ⟨b3, 0, none⟩)) ∧ W.cell? ⟨b, 7, none⟩ = some (.int .i64 h) ∧ W.cell? ⟨g, 0, none⟩ = some (.string y.key) ∧ W.cell? ⟨g, 1, none⟩ = some (.string y.key) ∧ W.cell? ⟨g, 2, none⟩ = some (.string y.val) ∧ W.cell? ⟨g, 3, none⟩ = some (.int .i64 y.made) ∧ W.cell? ⟨g, 4, none⟩ = some (.int .i64 y.mod) ∧ W.cell? ⟨g, 5, none⟩ = some (.pointer zl) ∧ W.cell? ⟨g, 6, none⟩ = some (.pointer zr) ∧ W.cell? ⟨g, 7, none⟩ = some (.int .i64 hz)) W from fun W hW => ⟨(hW.cell (p := ⟨b, 0, none⟩) (blk_lt H1.out)).trans ((blk_cell H1.out 0).trans rfl), (hW.cell (p := ⟨b, 1, none⟩) (blk_lt H1.out)).trans ((blk_cell H1.out 1).trans rfl), (hW.cell (p := ⟨b, 2, none⟩) (blk_lt H1.out)).trans ((blk_cell H1.out 2).trans rfl), (hW.cell (p := ⟨b, 3, none⟩) (blk_lt H1.out)).trans ((blk_cell H1.out 3).trans rfl), (hW.cell (p := ⟨b, 4, none⟩) (blk_lt H1.out)).trans ((blk_cell H1.out 4).trans rfl), (hW.cell (p := ⟨b, 5, none⟩) (blk_lt H1.out)).trans ((blk_cell H1.out 5).trans rfl), (hW.cell (p := ⟨b, 6, none⟩) (blk_lt H1.out)).trans ((blk_cell H1.out 6).trans rfl), (hW.cell (p := ⟨b, 7, none⟩) (blk_lt H1.out)).trans ((blk_cell H1.out 7).trans rfl), (hW.cell (p := ⟨g, 0, none⟩) (blk_lt HG.out)).trans ((blk_cell HG.out 0).trans rfl), (hW.cell (p := ⟨g, 1, none⟩) (blk_lt HG.out)).trans ((blk_cell HG.out 1).trans rfl), (hW.cell (p := ⟨g, 2, none⟩) (blk_lt HG.out)).trans ((blk_cell HG.out 2).trans rfl), (hW.cell (p := ⟨g, 3, none⟩) (blk_lt HG.out)).trans ((blk_cell HG.out 3).trans rfl), (hW.cell (p := ⟨g, 4, none⟩) (blk_lt HG.out)).trans ((blk_cell HG.out 4).trans rfl), (hW.cell (p := ⟨g, 5, none⟩) (blk_lt HG.out)).trans ((blk_cell HG.out 5).trans rfl), (hW.cell (p := ⟨g, 6, none⟩) (blk_lt HG.out)).trans ((blk_cell HG.out 6).trans rfl), (hW.cell (p := ⟨g, 7, none⟩) (blk_lt HG.out)).trans ((blk_cell HG.out 7).trans rfl)⟩)
          have hB0 := Lib.hid (Below.refl w1.heap.size w1)
          have hB1 := Lib.hid (show Below w1.heap.size w1 w1.drew from below_drew hB0.out)
          refine wp_region_noPanic ?_
          refine wp_region_held_drew (S := fun W => W.cell? ⟨b, 0, none⟩ = some (.string e.key) ∧ W.cell? ⟨b, 1, none⟩ = some (.string e.key) ∧ W.cell? ⟨b, 2, none⟩ = some (.string e.val) ∧ W.cell? ⟨b, 3, none⟩ = some (.int .i64 e.made) ∧ W.cell? ⟨b, 4, none⟩ = some (.int .i64 e.mod) ∧ W.cell? ⟨b, 5, none⟩ = some (.pointer (some ⟨b2, 0, none⟩)) ∧ W.cell? ⟨b, 6, none⟩ = some (.pointer (some ⟨b3, 0, none⟩)) ∧ W.cell? ⟨b, 7, none⟩ = some (.int .i64 h) ∧ W.cell? ⟨g, 0, none⟩ = some (.string y.key) ∧ W.cell? ⟨g, 1, none⟩ = some (.string y.key) ∧ W.cell? ⟨g, 2, none⟩ = some (.string y.val) ∧ W.cell? ⟨g, 3, none⟩ = some (.int .i64 y.made) ∧ W.cell? ⟨g, 4, none⟩ = some (.int .i64 y.mod) ∧ W.cell? ⟨g, 5, none⟩ = some (.pointer zl) ∧ W.cell? ⟨g, 6, none⟩ = some (.pointer zr) ∧ W.cell? ⟨g, 7, none⟩ = some (.int .i64 hz)) (by kernel_rfl) (hSB.out _ hB1.out) (fun hHeld => ?_)
          refine wTake 0 ?_
          refine wTake 1 ?_
          refine wTake 2 ?_
          refine wTake 3 ?_
          refine wTake 4 ?_
          refine wTake 5 ?_
          refine wTake 6 ?_
          refine wTake 7 ?_
          refine wTake 8 ?_
          refine wTake 9 ?_
          refine wTake 10 ?_
          refine wTake 11 ?_
          refine wTake 12 ?_
          try simp only [Act.put, List.setIfInBounds_toArray, List.set_cons_zero, List.set_cons_succ]
          refine wpAnyH_ready (rs := [13]) (by kernel_rfl) (by simp) (AllReadyH.cons rfl (fun K hK => ?_) AllReadyH.nil)
          go_simp
          refine (HIR.out y.key _ (AT.In.below hB1.out IR1.out)).mono ?_
          rintro z x2 ⟨t1, rfl, i1, tl1, row1, hb⟩
          have hB2 := Lib.hid (below_next0 hB1.out hb)
          have It1_2 := Lib.hid i1
          have T1 := Lib.hid tl1
          have R1 := Lib.hid row1
          clear tl1 row1
          clear hb i1
          go_wp2_with fail
          refine hK.out _ _ (hSB.out _ hB2.out) (fun hHeld => ?_)
          clear hK K
          try simp only [Act.put, List.setIfInBounds_toArray, List.set_cons_zero, List.set_cons_succ]
          refine wpAnyH_ready (rs := [14]) (by kernel_rfl) (by simp) (AllReadyH.cons rfl (fun K hK => ?_) AllReadyH.nil)
          go_simp
          refine (level_any g y zl zr hz (AT.node b2 e2 l2 r2 h2) t1 _ ((hB2.out.block _ (blk_lt HG.out)).trans HG.out) (AT.In.below hB2.out IL1.out) It1_2.out tl T1.out (by rw [R1.out]; have := del_le y.key (AT.node b3 e3 l3 r3 h3).row; omega)).mono ?_
          rintro z x3 ⟨t2, rfl, i2, tl2, row2, hb⟩
          have hB3 := Lib.hid (below_next0 hB2.out hb)
          have It1_3 := Lib.hid (AT.In.below hb It1_2.out)
          have It2_3 := Lib.hid i2
          have T2 := Lib.hid tl2
          have R2 := Lib.hid row2
          clear tl2 row2
          clear hb i2
          go_wp2_with fail
          refine hK.out _ _ (hSB.out _ hB3.out) (fun hHeld => ?_)
          clear hK K
          try simp only [Act.put, List.setIfInBounds_toArray, List.set_cons_zero, List.set_cons_succ]
          refine wTake 15 ?_
          try simp only [Act.put, List.setIfInBounds_toArray, List.set_cons_zero, List.set_cons_succ]
          refine wpAnyH_done (by kernel_rfl) ?_ _
          refine NoPanic.normal ?_
          clear hHeld
          have hrest : delL y.key (AT.node b3 e3 l3 r3 h3).row = rest := by have := sr; rw [HROW.out] at this ⊢; exact del_first this
          go_wp2
          go_ret
          exact ⟨t2, rfl, It2_3.out, T2.out, (R2.out.trans (by rw [R1.out, hrest, ← HROW.out])).trans HR.out.symm, Bw.out.trans (hB3.out.mono Bw.out.size)⟩
theorem adr_nil : AT.nil.adr = none := rfl
abbrev entV (x : Ent) : Value := .agg #[.string x.key, .string x.val, .int .i64 x.made, .int .i64 x.mod]
set_option maxHeartbeats 2000000 in
set_option maxRecDepth 100000 in
theorem get_any (t : AT) (k : ByteArray) (w : World) (ht : t.In w) (hS : Srt t.row) : Calls Try.prog 120 #[.pointer t.adr, .string k] w fun z w' => z = .returned (.tuple #[entV (getD k t.row), .bool (getL k t.row).isSome]) ∧ Below w.heap.size w w' := by
  go_enter Try.func120, Try.ntmps120
  go_wp2_with fail
  have Bw := Lib.hid (show Below w.heap.size w (w.alloc (.cells #[.string ⟨#[]⟩, .string ⟨#[]⟩, .int .i64 0, .int .i64 0] 62)) from below_alloc (Below.refl _ _) (.cells #[.string ⟨#[]⟩, .string ⟨#[]⟩, .int .i64 0, .int .i64 0] 62))
  have HV := Lib.hid (heap_alloc_new w (.cells #[.string ⟨#[]⟩, .string ⟨#[]⟩, .int .i64 0, .int .i64 0] 62))
  have IT := Lib.hid (AT.In.below Bw.out ht)
  generalize w.alloc (.cells #[.string ⟨#[]⟩, .string ⟨#[]⟩, .int .i64 0, .int .i64 0] 62) = w1 at *
  clear ht
  have HS := Lib.hid hS
  clear hS
  go_loopg [0] t.depth (fun n p wr => ∃ s : AT, wr = w1 ∧ p = .pointer s.adr ∧ s.In w1 ∧ getL k t.row = getL k s.row ∧ Srt s.row ∧ s.depth ≤ n)
  case atStart => exact ⟨t, rfl, rfl, IT.out, rfl, HS.out, Nat.le_refl _⟩
  case round =>
    obtain ⟨s, rfl, rfl, hi, hg, hs, hd⟩ := hrel
    have HG := Lib.hid hg
    have HSR := Lib.hid hs
    have HD := Lib.hid hd
    clear hg hs hd
    have v0 := blk_cell HV.out 0
    have v1 := blk_cell HV.out 1
    have v2 := blk_cell HV.out 2
    have v3 := blk_cell HV.out 3
    have f0 := blk_frozen HV.out 0
    have f1 := blk_frozen HV.out 1
    have f2 := blk_frozen HV.out 2
    have f3 := blk_frozen HV.out 3
    simp only [List.getElem?_toArray, List.getElem?_cons_zero, List.getElem?_cons_succ] at v0 v1 v2 v3
    cases s with
    | nil =>
      simp only [adr_nil]
      go_wp2
      refine bodyPost_ret (results_ct rfl _ _ w.heap.size 62 #[.string ⟨#[]⟩, .string ⟨#[]⟩, .int .i64 0, .int .i64 0] (0, 0) _ rfl (blk_put (cs := #[.string ⟨#[]⟩, .string ⟨#[]⟩, .int .i64 0, .int .i64 0]) (blk_put (cs := #[.string ⟨#[]⟩, .string ⟨#[]⟩, .int .i64 0, .int .i64 0]) (blk_put (cs := #[.string ⟨#[]⟩, .string ⟨#[]⟩, .int .i64 0, .int .i64 0]) (blk_put (cs := #[.string ⟨#[]⟩, .string ⟨#[]⟩, .int .i64 0, .int .i64 0]) HV.out 0 (.string ⟨#[]⟩) rfl) 1 (.string ⟨#[]⟩) rfl) 2 (.int .i64 0) rfl) 3 (.int .i64 0) rfl) Try.underlying62 rfl (by kernel_rfl)) rfl ?_
      exact ⟨by unfold getD; rw [HG.out]; rfl, ((((Bw.out.setCell (p := ⟨w.heap.size, 0, none⟩) (Nat.le_refl _) (.string ⟨#[]⟩)).setCell (p := ⟨w.heap.size, 1, none⟩) (Nat.le_refl _) (.string ⟨#[]⟩)).setCell (p := ⟨w.heap.size, 2, none⟩) (Nat.le_refl _) (.int .i64 0)).setCell (p := ⟨w.heap.size, 3, none⟩) (Nat.le_refl _) (.int .i64 0))⟩
    | node b e l r h =>
      obtain ⟨h0, il, ir⟩ := hi
      have IL := Lib.hid il
      have IR := Lib.hid ir
      clear il ir
      obtain ⟨sl, sr, _, _, _⟩ := srt_mid.1 HSR.out
      simp only [adr_node]
      have z0 : wr.cell? ⟨b, 0, none⟩ = some (.string e.key) := (blk_cell h0 0).trans rfl
      have z1 : wr.cell? ⟨b, 1, none⟩ = some (.string e.key) := (blk_cell h0 1).trans rfl
      have z2 : wr.cell? ⟨b, 2, none⟩ = some (.string e.val) := (blk_cell h0 2).trans rfl
      have z3 : wr.cell? ⟨b, 3, none⟩ = some (.int .i64 e.made) := (blk_cell h0 3).trans rfl
      have z4 : wr.cell? ⟨b, 4, none⟩ = some (.int .i64 e.mod) := (blk_cell h0 4).trans rfl
      have z5 : wr.cell? ⟨b, 5, none⟩ = some (.pointer l.adr) := (blk_cell h0 5).trans rfl
      have z6 : wr.cell? ⟨b, 6, none⟩ = some (.pointer r.adr) := (blk_cell h0 6).trans rfl
      have z7 : wr.cell? ⟨b, 7, none⟩ = some (.int .i64 h) := (blk_cell h0 7).trans rfl
      have hne : w.heap.size ≠ b := fun q => by have a := HV.out; rw [q, h0] at a; injection a with a; injection a with _ a; exact absurd a (by decide)
      clear h0
      by_cases c3 : e.key = k
      · have k3 := beq_same c3
        have C3 := Lib.hid c3
        clear c3
        go_wp2
        refine bodyPost_ret (results_ct rfl _ _ w.heap.size 62 #[.string e.key, .string e.val, .int .i64 e.made, .int .i64 e.mod] (0, 0) _ rfl (blk_put (cs := #[.string e.key, .string e.val, .int .i64 e.made, .int .i64 0]) (blk_put (cs := #[.string e.key, .string e.val, .int .i64 0, .int .i64 0]) (blk_put (cs := #[.string e.key, .string ⟨#[]⟩, .int .i64 0, .int .i64 0]) (blk_put (cs := #[.string ⟨#[]⟩, .string ⟨#[]⟩, .int .i64 0, .int .i64 0]) HV.out 0 (.string e.key) rfl) 1 (.string e.val) rfl) 2 (.int .i64 e.made) rfl) 3 (.int .i64 e.mod) rfl) Try.underlying62 rfl (by kernel_rfl)) rfl ?_
        exact ⟨by unfold getD; rw [HG.out]; rw [show getL k (AT.node b e l r h).row = some e from get_here C3.out HSR.out]; rfl, ((((Bw.out.setCell (p := ⟨w.heap.size, 0, none⟩) (Nat.le_refl _) (.string e.key)).setCell (p := ⟨w.heap.size, 1, none⟩) (Nat.le_refl _) (.string e.val)).setCell (p := ⟨w.heap.size, 2, none⟩) (Nat.le_refl _) (.int .i64 e.made)).setCell (p := ⟨w.heap.size, 3, none⟩) (Nat.le_refl _) (.int .i64 e.mod))⟩
      · have k3 := beq_ne c3
        cases c1 : lt k e.key
        · have c2 : lt e.key k = true := by cases c2 : lt e.key k; exact absurd (lt_tri c2 c1) c3; rfl
          have k1 := lt_bytes c1
          have C2 := Lib.hid c2
          clear c1 c2 c3
          go_wp2_with fail
          go_roundg r.depth
          case measure => have := HD.out; rw [AT.depth_node] at this; omega
          case rel => exact ⟨r, rfl, rfl, IR.out, HG.out.trans (get_right C2.out HSR.out), sr, Nat.le_refl _⟩
        · have k1 := lt_bytes c1
          have C1 := Lib.hid c1
          clear c1 c3
          go_wp2_with fail
          go_roundg l.depth
          case measure => have := HD.out; rw [AT.depth_node] at this; omega
          case rel => exact ⟨l, rfl, rfl, IL.out, HG.out.trans (get_left C1.out HSR.out), sl, Nat.le_refl _⟩
end Go.Proofs.Ytobanhbjkomieaa.TA
