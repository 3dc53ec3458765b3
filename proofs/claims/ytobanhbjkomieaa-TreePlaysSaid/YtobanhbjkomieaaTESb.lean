import Derived.Test.YtobanhbjkomieaaRTSb
import Derived.Deep.RegionHeld3
namespace Go.Proofs.Ytobanhbjkomieaa.TA
open Go Go.RowKit Go.Proofs.YtobanhbjkomieaaW.PrintWords Go.Proofs.YtobanhbjkomieaaW.PrintLast Go.Proofs.YtobanhbjkomieaaW.PrintMore
open Go.Proofs.Ytobanhbjkomieaa.RP (wTake wSkip wOne wpAnyH_cast keep_cell below_next0)
set_option linter.unusedSimpArgs false
set_option linter.unusedVariables false
theorem max2m (k k' : IntKind) (x y : Int) : Builtin.max2 (.int k x) (.int k' y) = pure (.int k (max x y)) := by
  have h : (if x < y then y else x) = max x y := by split <;> omega
  simp only [Builtin.max2, gt_iff_lt, h]
attribute [local go_sem] max2m max_two i64_w
theorem AT.high_node (b : Nat) (e : Ent) (l r : AT) (h : Int) : (AT.node b e l r h).high = h := rfl
attribute [local go_sem] AT.high_node
set_option maxHeartbeats 2000000 in
set_option maxRecDepth 100000 in
theorem height_any (t : AT) (w : World) (ht : t.In w) : Calls Try.prog 205 #[.pointer t.adr] w fun x w' => x = .returned (.int .i64 t.high) ∧ Below w.heap.size w w' := by
  cases t with
  | nil =>
    show Calls _ _ #[.pointer none] _ _
    go_enter Try.func205, Try.ntmps205
    go_wp2
    go_ret
    exact ⟨rfl, Below.refl _ _⟩
  | node b e l r h =>
    obtain ⟨h0, _, _⟩ := ht
    have c7 : w.cell? ⟨b, 7, none⟩ = some (.int .i64 h) := (blk_cell h0 7).trans rfl
    clear h0
    show Calls _ _ #[.pointer (some ⟨b, 0, none⟩)] _ _
    go_enter Try.func205, Try.ntmps205
    go_wp2
    go_ret
    exact ⟨rfl, Below.refl _ _⟩
set_option maxHeartbeats 2000000 in
set_option maxRecDepth 100000 in
theorem with_any (b : Nat) (e : Ent) (l0 r0 : Option Addr) (h0 : Int) (l r : AT) (w : World) (hs : w.heap[b]? = some (.cells #[.string e.key, .string e.key, .string e.val, .int .i64 e.made, .int .i64 e.mod, .pointer l0, .pointer r0, .int .i64 h0] 218 (0, 0)))
    (hl : l.In w) (hr : r.In w) (bl : 0 ≤ l.high ∧ l.high ≤ 1099511627776) (br : 0 ≤ r.high ∧ r.high ≤ 1099511627776) :
    Calls Try.prog 206 #[.pointer (some ⟨b, 0, none⟩), .pointer l.adr, .pointer r.adr] w fun x w' => ∃ g, x = .returned (.pointer (some ⟨g, 0, none⟩)) ∧ w'.heap[g]? = some (.cells #[.string e.key, .string e.key, .string e.val, .int .i64 e.made, .int .i64 e.mod, .pointer l.adr, .pointer r.adr, .int .i64 (1 + max l.high r.high)] 218 (0, 0)) ∧ Below w.heap.size w w' := by
  have hw : wrap64 (1 + max l.high r.high) = 1 + max l.high r.high := by unfold wrap64; omega
  have hSB := Lib.hid (show ∀ W, Below w.heap.size w W → (fun W => W.cell? ⟨b, 0, none⟩ = some (.string e.key) ∧ W.cell? ⟨b, 1, none⟩ = some (.string e.key) ∧ W.cell? ⟨b, 2, none⟩ = some (.string e.val) ∧ W.cell? ⟨b, 3, none⟩ = some (.int .i64 e.made) ∧ W.cell? ⟨b, 4, none⟩ = some (.int .i64 e.mod) ∧ W.cell? ⟨b, 5, none⟩ = some (.pointer l0) ∧ W.cell? ⟨b, 6, none⟩ = some (.pointer r0) ∧ W.cell? ⟨b, 7, none⟩ = some (.int .i64 h0)) W from fun W hW => ⟨(hW.cell (p := ⟨b, 0, none⟩) (blk_lt hs)).trans ((blk_cell hs 0).trans rfl), (hW.cell (p := ⟨b, 1, none⟩) (blk_lt hs)).trans ((blk_cell hs 1).trans rfl), (hW.cell (p := ⟨b, 2, none⟩) (blk_lt hs)).trans ((blk_cell hs 2).trans rfl), (hW.cell (p := ⟨b, 3, none⟩) (blk_lt hs)).trans ((blk_cell hs 3).trans rfl), (hW.cell (p := ⟨b, 4, none⟩) (blk_lt hs)).trans ((blk_cell hs 4).trans rfl), (hW.cell (p := ⟨b, 5, none⟩) (blk_lt hs)).trans ((blk_cell hs 5).trans rfl), (hW.cell (p := ⟨b, 6, none⟩) (blk_lt hs)).trans ((blk_cell hs 6).trans rfl), (hW.cell (p := ⟨b, 7, none⟩) (blk_lt hs)).trans ((blk_cell hs 7).trans rfl)⟩)
  have hB0 := Lib.hid (Below.refl w.heap.size w)
  clear hs
  go_enter Try.func206, Try.ntmps206
  go_wp2_with fail
  have hB1 := Lib.hid (show Below w.heap.size w w.drew from below_drew hB0.out)
  refine wp_region_noPanic ?_
  refine wp_region_held_drew (S := fun W => W.cell? ⟨b, 0, none⟩ = some (.string e.key) ∧ W.cell? ⟨b, 1, none⟩ = some (.string e.key) ∧ W.cell? ⟨b, 2, none⟩ = some (.string e.val) ∧ W.cell? ⟨b, 3, none⟩ = some (.int .i64 e.made) ∧ W.cell? ⟨b, 4, none⟩ = some (.int .i64 e.mod) ∧ W.cell? ⟨b, 5, none⟩ = some (.pointer l0) ∧ W.cell? ⟨b, 6, none⟩ = some (.pointer r0) ∧ W.cell? ⟨b, 7, none⟩ = some (.int .i64 h0)) (by kernel_rfl) (hSB.out _ hB1.out) (fun hHeld => ?_)
  refine wTake 0 ?_
  refine wTake 1 ?_
  refine wTake 2 ?_
  refine wTake 3 ?_
  refine wTake 4 ?_
  refine wTake 5 ?_
  refine wTake 6 ?_
  refine wTake 7 ?_
  refine wTake 8 ?_
  refine wTake 9 ?_
  refine wTake 10 ?_
  refine wTake 12 ?_
  try simp only [Act.put, List.setIfInBounds_toArray, List.set_cons_zero, List.set_cons_succ]
  refine wpAnyH_ready (rs := [11]) (by kernel_rfl) (by simp) (AllReadyH.cons rfl (fun K hK => ?_) AllReadyH.nil)
  go_simp
  refine (height_any l _ (AT.In.below hB1.out hl)).mono ?_
  rintro z x2 ⟨rfl, hb⟩
  have hB2 := Lib.hid (below_next0 hB1.out hb)
  clear hb
  go_wp2_with fail
  refine hK.out _ _ (hSB.out _ hB2.out) (fun hHeld => ?_)
  clear hK K
  try simp only [Act.put, List.setIfInBounds_toArray, List.set_cons_zero, List.set_cons_succ]
  refine wpAnyH_ready (rs := [13]) (by kernel_rfl) (by simp) (AllReadyH.cons rfl (fun K hK => ?_) AllReadyH.nil)
  go_simp
  refine (height_any r _ (AT.In.below hB2.out hr)).mono ?_
  rintro z x3 ⟨rfl, hb⟩
  have hB3 := Lib.hid (below_next0 hB2.out hb)
  clear hb
  go_wp2_with fail
  refine hK.out _ _ (hSB.out _ hB3.out) (fun hHeld => ?_)
  clear hK K
  try simp only [Act.put, List.setIfInBounds_toArray, List.set_cons_zero, List.set_cons_succ]
  refine wTake 14 ?_
  refine wTake 15 ?_
  refine wTake 16 ?_
  try simp only [Act.put, List.setIfInBounds_toArray, List.set_cons_zero, List.set_cons_succ]
  refine wpAnyH_ready (rs := [17]) (by kernel_rfl) (by simp) (AllReadyH.cons rfl (fun K hK => ?_) AllReadyH.nil)
  go_simp
  obtain ⟨g, hg⟩ : ∃ X, X = x3.heap.size := ⟨_, rfl⟩
  go_wp2_with fail
  have eg : x3.heap.size = g := hg.symm
  rw [eg]
  have lg : w.heap.size ≤ g := by rw [hg]; exact hB3.out.size
  have hB4 := Lib.hid (show Below w.heap.size w (x3.alloc (.cells #[.string e.key, .string e.key, .string e.val, .int .i64 e.made, .int .i64 e.mod, .pointer l.adr, .pointer r.adr, .int .i64 (1 + max l.high r.high)] 218)) from below_alloc hB3.out (.cells #[.string e.key, .string e.key, .string e.val, .int .i64 e.made, .int .i64 e.mod, .pointer l.adr, .pointer r.adr, .int .i64 (1 + max l.high r.high)] 218))
  have Hg_4 := Lib.hid (show (x3.alloc (.cells #[.string e.key, .string e.key, .string e.val, .int .i64 e.made, .int .i64 e.mod, .pointer l.adr, .pointer r.adr, .int .i64 (1 + max l.high r.high)] 218)).heap[g]? = some (.cells #[.string e.key, .string e.key, .string e.val, .int .i64 e.made, .int .i64 e.mod, .pointer l.adr, .pointer r.adr, .int .i64 (1 + max l.high r.high)] 218 (0, 0)) from hg ▸ heap_alloc_new x3 (.cells #[.string e.key, .string e.key, .string e.val, .int .i64 e.made, .int .i64 e.mod, .pointer l.adr, .pointer r.adr, .int .i64 (1 + max l.high r.high)] 218))
  clear eg hg
  generalize (x3.alloc (.cells #[.string e.key, .string e.key, .string e.val, .int .i64 e.made, .int .i64 e.mod, .pointer l.adr, .pointer r.adr, .int .i64 (1 + max l.high r.high)] 218)) = x4 at *
  refine hK.out _ _ (hSB.out _ hB4.out) (fun hHeld => ?_)
  clear hK K
  try simp only [Act.put, List.setIfInBounds_toArray, List.set_cons_zero, List.set_cons_succ]
  refine wTake 18 ?_
  try simp only [Act.put, List.setIfInBounds_toArray, List.set_cons_zero, List.set_cons_succ]
  refine wpAnyH_done (by kernel_rfl) ?_ _
  refine NoPanic.normal ?_
  clear hHeld
  go_wp2
  go_ret
  exact ⟨g, rfl, Hg_4.out, hB4.out⟩
set_option maxHeartbeats 2000000 in
set_option maxRecDepth 100000 in
theorem level_c (b : Nat) (e : Ent) (l0 r0 : Option Addr) (h0 : Int) (l r : AT) (w : World) (hs : w.heap[b]? = some (.cells #[.string e.key, .string e.key, .string e.val, .int .i64 e.made, .int .i64 e.mod, .pointer l0, .pointer r0, .int .i64 h0] 218 (0, 0))) (hl : l.In w) (hr : r.In w) (tl : l.Tall) (tr : r.Tall) (hn : l.row.length + r.row.length ≤ 1000000000) (h1 : ¬ 1 < l.high - r.high) (h2 : ¬ l.high - r.high < -1) :
    Calls Try.prog 178 #[.pointer (some ⟨b, 0, none⟩), .pointer l.adr, .pointer r.adr] w fun x w' => ∃ t : AT, x = .returned (.pointer t.adr) ∧ t.In w' ∧ t.Tall ∧ t.row = l.row ++ e :: r.row ∧ Below w.heap.size w w' := by
  have q1 := AT.tall_bd tl
  have q2 := AT.tall_bd tr
  obtain ⟨d, hd⟩ : ∃ d, d = l.high - r.high := ⟨_, rfl⟩
  have hw : wrap64 (l.high - r.high) = d := by rw [hd]; unfold wrap64; omega
  rw [← hd] at h1 h2
  have HD := Lib.hid hd
  clear hd
  have hSB := Lib.hid (show ∀ W, Below w.heap.size w W → (fun W => W.cell? ⟨b, 0, none⟩ = some (.string e.key) ∧ W.cell? ⟨b, 1, none⟩ = some (.string e.key) ∧ W.cell? ⟨b, 2, none⟩ = some (.string e.val) ∧ W.cell? ⟨b, 3, none⟩ = some (.int .i64 e.made) ∧ W.cell? ⟨b, 4, none⟩ = some (.int .i64 e.mod) ∧ W.cell? ⟨b, 5, none⟩ = some (.pointer l0) ∧ W.cell? ⟨b, 6, none⟩ = some (.pointer r0) ∧ W.cell? ⟨b, 7, none⟩ = some (.int .i64 h0)) W from fun W hW => ⟨(hW.cell (p := ⟨b, 0, none⟩) (blk_lt hs)).trans ((blk_cell hs 0).trans rfl), (hW.cell (p := ⟨b, 1, none⟩) (blk_lt hs)).trans ((blk_cell hs 1).trans rfl), (hW.cell (p := ⟨b, 2, none⟩) (blk_lt hs)).trans ((blk_cell hs 2).trans rfl), (hW.cell (p := ⟨b, 3, none⟩) (blk_lt hs)).trans ((blk_cell hs 3).trans rfl), (hW.cell (p := ⟨b, 4, none⟩) (blk_lt hs)).trans ((blk_cell hs 4).trans rfl), (hW.cell (p := ⟨b, 5, none⟩) (blk_lt hs)).trans ((blk_cell hs 5).trans rfl), (hW.cell (p := ⟨b, 6, none⟩) (blk_lt hs)).trans ((blk_cell hs 6).trans rfl), (hW.cell (p := ⟨b, 7, none⟩) (blk_lt hs)).trans ((blk_cell hs 7).trans rfl)⟩)
  have hB0 := Lib.hid (Below.refl w.heap.size w)
  go_enter Try.func178, Try.ntmps178
  go_wp2_with fail
  refine (height_any l _ (AT.In.below hB0.out hl)).mono ?_
  rintro z x1 ⟨rfl, hb⟩
  have hB1 := Lib.hid (below_next0 hB0.out hb)
  clear hb
  go_wp2_with fail
  refine (height_any r _ (AT.In.below hB1.out hr)).mono ?_
  rintro z x2 ⟨rfl, hb⟩
  have hB2 := Lib.hid (below_next0 hB1.out hb)
  clear hb
  have hHeld := hSB.out _ hB2.out
  go_wp2_with fail
  have hB3 := Lib.hid (show Below w.heap.size w x2.drew from below_drew hB2.out)
  refine wp_region_noPanic ?_
  refine wp_region_held_drew (S := fun W => W.cell? ⟨b, 0, none⟩ = some (.string e.key) ∧ W.cell? ⟨b, 1, none⟩ = some (.string e.key) ∧ W.cell? ⟨b, 2, none⟩ = some (.string e.val) ∧ W.cell? ⟨b, 3, none⟩ = some (.int .i64 e.made) ∧ W.cell? ⟨b, 4, none⟩ = some (.int .i64 e.mod) ∧ W.cell? ⟨b, 5, none⟩ = some (.pointer l0) ∧ W.cell? ⟨b, 6, none⟩ = some (.pointer r0) ∧ W.cell? ⟨b, 7, none⟩ = some (.int .i64 h0)) (by kernel_rfl) (hSB.out _ hB3.out) (fun hHeld => ?_)
  refine wTake 0 ?_
  refine wTake 1 ?_
  refine wTake 2 ?_
  try simp only [Act.put, List.setIfInBounds_toArray, List.set_cons_zero, List.set_cons_succ]
  try simp only [decide_eq_false (show ¬ 1 < d by omega)]
  refine wSkip 3 ?_
  try simp only [Act.put, List.setIfInBounds_toArray, List.set_cons_zero, List.set_cons_succ]
  refine wSkip 4 ?_
  try simp only [Act.put, List.setIfInBounds_toArray, List.set_cons_zero, List.set_cons_succ]
  refine wSkip 5 ?_
  try simp only [Act.put, List.setIfInBounds_toArray, List.set_cons_zero, List.set_cons_succ]
  refine wSkip 6 ?_
  try simp only [Act.put, List.setIfInBounds_toArray, List.set_cons_zero, List.set_cons_succ]
  refine wSkip 7 ?_
  try simp only [Act.put, List.setIfInBounds_toArray, List.set_cons_zero, List.set_cons_succ]
  refine wSkip 8 ?_
  try simp only [Act.put, List.setIfInBounds_toArray, List.set_cons_zero, List.set_cons_succ]
  refine wSkip 9 ?_
  try simp only [Act.put, List.setIfInBounds_toArray, List.set_cons_zero, List.set_cons_succ]
  refine wSkip 10 ?_
  try simp only [Act.put, List.setIfInBounds_toArray, List.set_cons_zero, List.set_cons_succ]
  refine wSkip 11 ?_
  try simp only [Act.put, List.setIfInBounds_toArray, List.set_cons_zero, List.set_cons_succ]
  refine wSkip 12 ?_
  try simp only [Act.put, List.setIfInBounds_toArray, List.set_cons_zero, List.set_cons_succ]
  refine wSkip 13 ?_
  refine wTake 14 ?_
  refine wTake 15 ?_
  try simp only [Act.put, List.setIfInBounds_toArray, List.set_cons_zero, List.set_cons_succ]
  refine wpAnyH_done (by kernel_rfl) ?_ _
  refine NoPanic.normal ?_
  generalize x2.drew = v1 at *
  clear hHeld
  have hHeld := hSB.out _ hB3.out
  go_wp2_with fail
  have hB4 := Lib.hid (show Below w.heap.size w v1.drew from below_drew hB3.out)
  refine wp_region_noPanic ?_
  refine wp_region_held_drew (S := fun W => W.cell? ⟨b, 0, none⟩ = some (.string e.key) ∧ W.cell? ⟨b, 1, none⟩ = some (.string e.key) ∧ W.cell? ⟨b, 2, none⟩ = some (.string e.val) ∧ W.cell? ⟨b, 3, none⟩ = some (.int .i64 e.made) ∧ W.cell? ⟨b, 4, none⟩ = some (.int .i64 e.mod) ∧ W.cell? ⟨b, 5, none⟩ = some (.pointer l0) ∧ W.cell? ⟨b, 6, none⟩ = some (.pointer r0) ∧ W.cell? ⟨b, 7, none⟩ = some (.int .i64 h0)) (by kernel_rfl) (hSB.out _ hB4.out) (fun hHeld => ?_)
  refine wTake 0 ?_
  refine wTake 1 ?_
  refine wTake 2 ?_
  try simp only [Act.put, List.setIfInBounds_toArray, List.set_cons_zero, List.set_cons_succ]
  try simp only [decide_eq_false (show ¬ d < -1 by omega)]
  refine wSkip 3 ?_
  try simp only [Act.put, List.setIfInBounds_toArray, List.set_cons_zero, List.set_cons_succ]
  refine wSkip 4 ?_
  try simp only [Act.put, List.setIfInBounds_toArray, List.set_cons_zero, List.set_cons_succ]
  refine wSkip 5 ?_
  try simp only [Act.put, List.setIfInBounds_toArray, List.set_cons_zero, List.set_cons_succ]
  refine wSkip 6 ?_
  try simp only [Act.put, List.setIfInBounds_toArray, List.set_cons_zero, List.set_cons_succ]
  refine wSkip 7 ?_
  try simp only [Act.put, List.setIfInBounds_toArray, List.set_cons_zero, List.set_cons_succ]
  refine wSkip 8 ?_
  try simp only [Act.put, List.setIfInBounds_toArray, List.set_cons_zero, List.set_cons_succ]
  refine wSkip 9 ?_
  try simp only [Act.put, List.setIfInBounds_toArray, List.set_cons_zero, List.set_cons_succ]
  refine wSkip 10 ?_
  try simp only [Act.put, List.setIfInBounds_toArray, List.set_cons_zero, List.set_cons_succ]
  refine wSkip 11 ?_
  try simp only [Act.put, List.setIfInBounds_toArray, List.set_cons_zero, List.set_cons_succ]
  refine wSkip 12 ?_
  try simp only [Act.put, List.setIfInBounds_toArray, List.set_cons_zero, List.set_cons_succ]
  refine wSkip 13 ?_
  refine wTake 14 ?_
  refine wTake 15 ?_
  try simp only [Act.put, List.setIfInBounds_toArray, List.set_cons_zero, List.set_cons_succ]
  refine wpAnyH_done (by kernel_rfl) ?_ _
  refine NoPanic.normal ?_
  generalize v1.drew = v2 at *
  clear hHeld
  have hHeld := hSB.out _ hB4.out
  go_wp2_with fail
  refine (with_any b e l0 r0 h0 l r _ ((hB4.out.block _ (blk_lt hs)).trans hs) (AT.In.below hB4.out hl) (AT.In.below hB4.out hr) (by omega) (by omega)).mono ?_
  rintro z x5 ⟨g, rfl, hg, hb⟩
  have hB5 := Lib.hid (below_next0 hB4.out hb)
  have I1 := Lib.hid ((AT.In.below hB5.out hl))
  have I2 := Lib.hid ((AT.In.below hB5.out hr))
  clear hHeld hb
  go_wp2
  go_ret
  exact ⟨AT.node g e l r (1 + max l.high r.high), rfl, ⟨hg, I1.out, I2.out⟩, ⟨rfl, tl, tr⟩, by simp [AT.row], hB5.out⟩
set_option maxHeartbeats 2000000 in
set_option maxRecDepth 100000 in
theorem level_a1 (b : Nat) (e : Ent) (l0 r0 : Option Addr) (h0 : Int) (bl : Nat) (el : Ent) (ll lr r : AT) (w : World) (hs : w.heap[b]? = some (.cells #[.string e.key, .string e.key, .string e.val, .int .i64 e.made, .int .i64 e.mod, .pointer l0, .pointer r0, .int .i64 h0] 218 (0, 0))) (hbl : w.heap[bl]? = some (.cells #[.string el.key, .string el.key, .string el.val, .int .i64 el.made, .int .i64 el.mod, .pointer ll.adr, .pointer lr.adr, .int .i64 (1 + max ll.high lr.high)] 218 (0, 0))) (hll : ll.In w) (hlr : lr.In w) (hr : r.In w) (tll : ll.Tall) (tlr : lr.Tall) (tr : r.Tall) (hn : ll.row.length + lr.row.length + r.row.length ≤ 900000000) (h1 : 1 < 1 + max ll.high lr.high - r.high) (hc : lr.high ≤ ll.high) :
    Calls Try.prog 178 #[.pointer (some ⟨b, 0, none⟩), .pointer (some ⟨bl, 0, none⟩), .pointer r.adr] w fun x w' => ∃ t : AT, x = .returned (.pointer t.adr) ∧ t.In w' ∧ t.Tall ∧ t.row = (ll.row ++ el :: lr.row) ++ e :: r.row ∧ Below w.heap.size w w' := by
  have q1 := AT.tall_bd tll
  have q2 := AT.tall_bd tr
  have q3 := AT.tall_bd tlr
  obtain ⟨d, hd⟩ : ∃ d, d = 1 + max ll.high lr.high - r.high := ⟨_, rfl⟩
  have hw : wrap64 (1 + max ll.high lr.high - r.high) = d := by rw [hd]; unfold wrap64; omega
  rw [← hd] at h1
  have HD := Lib.hid hd
  clear hd
  have hSB := Lib.hid (show ∀ W, Below w.heap.size w W → (fun W => W.cell? ⟨b, 0, none⟩ = some (.string e.key) ∧ W.cell? ⟨b, 1, none⟩ = some (.string e.key) ∧ W.cell? ⟨b, 2, none⟩ = some (.string e.val) ∧ W.cell? ⟨b, 3, none⟩ = some (.int .i64 e.made) ∧ W.cell? ⟨b, 4, none⟩ = some (.int .i64 e.mod) ∧ W.cell? ⟨b, 5, none⟩ = some (.pointer l0) ∧ W.cell? ⟨b, 6, none⟩ = some (.pointer r0) ∧ W.cell? ⟨b, 7, none⟩ = some (.int .i64 h0) ∧ W.cell? ⟨bl, 0, none⟩ = some (.string el.key) ∧ W.cell? ⟨bl, 1, none⟩ = some (.string el.key) ∧ W.cell? ⟨bl, 2, none⟩ = some (.string el.val) ∧ W.cell? ⟨bl, 3, none⟩ = some (.int .i64 el.made) ∧ W.cell? ⟨bl, 4, none⟩ = some (.int .i64 el.mod) ∧ W.cell? ⟨bl, 5, none⟩ = some (.pointer ll.adr) ∧ W.cell? ⟨bl, 6, none⟩ = some (.pointer lr.adr) ∧ W.cell? ⟨bl, 7, none⟩ = some (.int .i64 (1 + max ll.high lr.high))) W from fun W hW => ⟨(hW.cell (p := ⟨b, 0, none⟩) (blk_lt hs)).trans ((blk_cell hs 0).trans rfl), (hW.cell (p := ⟨b, 1, none⟩) (blk_lt hs)).trans ((blk_cell hs 1).trans rfl), (hW.cell (p := ⟨b, 2, none⟩) (blk_lt hs)).trans ((blk_cell hs 2).trans rfl), (hW.cell (p := ⟨b, 3, none⟩) (blk_lt hs)).trans ((blk_cell hs 3).trans rfl), (hW.cell (p := ⟨b, 4, none⟩) (blk_lt hs)).trans ((blk_cell hs 4).trans rfl), (hW.cell (p := ⟨b, 5, none⟩) (blk_lt hs)).trans ((blk_cell hs 5).trans rfl), (hW.cell (p := ⟨b, 6, none⟩) (blk_lt hs)).trans ((blk_cell hs 6).trans rfl), (hW.cell (p := ⟨b, 7, none⟩) (blk_lt hs)).trans ((blk_cell hs 7).trans rfl), (hW.cell (p := ⟨bl, 0, none⟩) (blk_lt hbl)).trans ((blk_cell hbl 0).trans rfl), (hW.cell (p := ⟨bl, 1, none⟩) (blk_lt hbl)).trans ((blk_cell hbl 1).trans rfl), (hW.cell (p := ⟨bl, 2, none⟩) (blk_lt hbl)).trans ((blk_cell hbl 2).trans rfl), (hW.cell (p := ⟨bl, 3, none⟩) (blk_lt hbl)).trans ((blk_cell hbl 3).trans rfl), (hW.cell (p := ⟨bl, 4, none⟩) (blk_lt hbl)).trans ((blk_cell hbl 4).trans rfl), (hW.cell (p := ⟨bl, 5, none⟩) (blk_lt hbl)).trans ((blk_cell hbl 5).trans rfl), (hW.cell (p := ⟨bl, 6, none⟩) (blk_lt hbl)).trans ((blk_cell hbl 6).trans rfl), (hW.cell (p := ⟨bl, 7, none⟩) (blk_lt hbl)).trans ((blk_cell hbl 7).trans rfl)⟩)
  have hB0 := Lib.hid (Below.refl w.heap.size w)
  go_enter Try.func178, Try.ntmps178
  go_wp2_with fail
  refine (height_any (AT.node bl el ll lr (1 + max ll.high lr.high)) _ ⟨((hB0.out.block _ (blk_lt hbl)).trans hbl), (AT.In.below hB0.out hll), (AT.In.below hB0.out hlr)⟩).mono ?_
  rintro z x1 ⟨rfl, hb⟩
  have hB1 := Lib.hid (below_next0 hB0.out hb)
  clear hb
  go_wp2_with fail
  refine (height_any r _ (AT.In.below hB1.out hr)).mono ?_
  rintro z x2 ⟨rfl, hb⟩
  have hB2 := Lib.hid (below_next0 hB1.out hb)
  clear hb
  try simp only [AT.high_node]
  have hHeld := hSB.out _ hB2.out
  go_wp2_with fail
  have hB3 := Lib.hid (show Below w.heap.size w x2.drew from below_drew hB2.out)
  refine wp_region_noPanic ?_
  refine wp_region_held_drew (S := fun W => W.cell? ⟨b, 0, none⟩ = some (.string e.key) ∧ W.cell? ⟨b, 1, none⟩ = some (.string e.key) ∧ W.cell? ⟨b, 2, none⟩ = some (.string e.val) ∧ W.cell? ⟨b, 3, none⟩ = some (.int .i64 e.made) ∧ W.cell? ⟨b, 4, none⟩ = some (.int .i64 e.mod) ∧ W.cell? ⟨b, 5, none⟩ = some (.pointer l0) ∧ W.cell? ⟨b, 6, none⟩ = some (.pointer r0) ∧ W.cell? ⟨b, 7, none⟩ = some (.int .i64 h0) ∧ W.cell? ⟨bl, 0, none⟩ = some (.string el.key) ∧ W.cell? ⟨bl, 1, none⟩ = some (.string el.key) ∧ W.cell? ⟨bl, 2, none⟩ = some (.string el.val) ∧ W.cell? ⟨bl, 3, none⟩ = some (.int .i64 el.made) ∧ W.cell? ⟨bl, 4, none⟩ = some (.int .i64 el.mod) ∧ W.cell? ⟨bl, 5, none⟩ = some (.pointer ll.adr) ∧ W.cell? ⟨bl, 6, none⟩ = some (.pointer lr.adr) ∧ W.cell? ⟨bl, 7, none⟩ = some (.int .i64 (1 + max ll.high lr.high))) (by kernel_rfl) (hSB.out _ hB3.out) (fun hHeld => ?_)
  refine wTake 0 ?_
  refine wTake 1 ?_
  refine wTake 2 ?_
  try simp only [Act.put, List.setIfInBounds_toArray, List.set_cons_zero, List.set_cons_succ]
  try simp only [decide_eq_true h1]
  refine wTake 3 ?_
  try simp only [Act.put, List.setIfInBounds_toArray, List.set_cons_zero, List.set_cons_succ]
  refine wTake 4 ?_
  try simp only [Act.put, List.setIfInBounds_toArray, List.set_cons_zero, List.set_cons_succ]
  refine wTake 5 ?_
  try simp only [Act.put, List.setIfInBounds_toArray, List.set_cons_zero, List.set_cons_succ]
  refine wTake 6 ?_
  try simp only [Act.put, List.setIfInBounds_toArray, List.set_cons_zero, List.set_cons_succ]
  refine wTake 8 ?_
  try simp only [Act.put, List.setIfInBounds_toArray, List.set_cons_zero, List.set_cons_succ]
  refine wTake 9 ?_
  try simp only [Act.put, List.setIfInBounds_toArray, List.set_cons_zero, List.set_cons_succ]
  refine wTake 10 ?_
  try simp only [Act.put, List.setIfInBounds_toArray, List.set_cons_zero, List.set_cons_succ]
  refine wTake 11 ?_
  try simp only [Act.put, List.setIfInBounds_toArray, List.set_cons_zero, List.set_cons_succ]
  refine wpAnyH_ready (rs := [7]) (by kernel_rfl) (by simp) (AllReadyH.cons rfl (fun K hK => ?_) AllReadyH.nil)
  go_simp
  refine (height_any ll _ (AT.In.below hB3.out hll)).mono ?_
  rintro z x4 ⟨rfl, hb⟩
  have hB4 := Lib.hid (below_next0 hB3.out hb)
  clear hb
  go_wp2_with fail
  refine hK.out _ _ (hSB.out _ hB4.out) (fun hHeld => ?_)
  clear hK K
  try simp only [Act.put, List.setIfInBounds_toArray, List.set_cons_zero, List.set_cons_succ]
  refine wpAnyH_ready (rs := [12]) (by kernel_rfl) (by simp) (AllReadyH.cons rfl (fun K hK => ?_) AllReadyH.nil)
  go_simp
  refine (height_any lr _ (AT.In.below hB4.out hlr)).mono ?_
  rintro z x5 ⟨rfl, hb⟩
  have hB5 := Lib.hid (below_next0 hB4.out hb)
  clear hb
  go_wp2_with fail
  refine hK.out _ _ (hSB.out _ hB5.out) (fun hHeld => ?_)
  clear hK K
  try simp only [Act.put, List.setIfInBounds_toArray, List.set_cons_zero, List.set_cons_succ]
  refine wTake 13 ?_
  refine wTake 14 ?_
  refine wTake 15 ?_
  try simp only [Act.put, List.setIfInBounds_toArray, List.set_cons_zero, List.set_cons_succ]
  refine wpAnyH_done (by kernel_rfl) ?_ _
  refine NoPanic.normal ?_
  clear hHeld
  have hHeld := hSB.out _ hB5.out
  go_wp2_with fail
  have hB6 := Lib.hid (show Below w.heap.size w x5.drew from below_drew hB5.out)
  refine wp_region_noPanic ?_
  refine wp_region_held_drew (S := fun W => W.cell? ⟨b, 0, none⟩ = some (.string e.key) ∧ W.cell? ⟨b, 1, none⟩ = some (.string e.key) ∧ W.cell? ⟨b, 2, none⟩ = some (.string e.val) ∧ W.cell? ⟨b, 3, none⟩ = some (.int .i64 e.made) ∧ W.cell? ⟨b, 4, none⟩ = some (.int .i64 e.mod) ∧ W.cell? ⟨b, 5, none⟩ = some (.pointer l0) ∧ W.cell? ⟨b, 6, none⟩ = some (.pointer r0) ∧ W.cell? ⟨b, 7, none⟩ = some (.int .i64 h0) ∧ W.cell? ⟨bl, 0, none⟩ = some (.string el.key) ∧ W.cell? ⟨bl, 1, none⟩ = some (.string el.key) ∧ W.cell? ⟨bl, 2, none⟩ = some (.string el.val) ∧ W.cell? ⟨bl, 3, none⟩ = some (.int .i64 el.made) ∧ W.cell? ⟨bl, 4, none⟩ = some (.int .i64 el.mod) ∧ W.cell? ⟨bl, 5, none⟩ = some (.pointer ll.adr) ∧ W.cell? ⟨bl, 6, none⟩ = some (.pointer lr.adr) ∧ W.cell? ⟨bl, 7, none⟩ = some (.int .i64 (1 + max ll.high lr.high))) (by kernel_rfl) (hSB.out _ hB6.out) (fun hHeld => ?_)
  refine wTake 0 ?_
  refine wTake 1 ?_
  refine wTake 2 ?_
  refine wTake 3 ?_
  refine wTake 4 ?_
  refine wTake 5 ?_
  refine wTake 6 ?_
  refine wTake 7 ?_
  refine wTake 8 ?_
  refine wTake 9 ?_
  refine wTake 10 ?_
  try simp only [Act.put, List.setIfInBounds_toArray, List.set_cons_zero, List.set_cons_succ]
  refine wpAnyH_ready (rs := [11]) (by kernel_rfl) (by simp) (AllReadyH.cons rfl (fun K hK => ?_) AllReadyH.nil)
  go_simp
  refine (with_any b e l0 r0 h0 lr r _ ((hB6.out.block _ (blk_lt hs)).trans hs) (AT.In.below hB6.out hlr) (AT.In.below hB6.out hr) (by omega) (by omega)).mono ?_
  rintro z x7 ⟨g1, rfl, hg, hb⟩
  have hB7 := Lib.hid (below_next0 hB6.out hb)
  have Hg1_7 := Lib.hid hg
  clear hb hg
  go_wp2_with fail
  refine hK.out _ _ (hSB.out _ hB7.out) (fun hHeld => ?_)
  clear hK K
  try simp only [Act.put, List.setIfInBounds_toArray, List.set_cons_zero, List.set_cons_succ]
  refine wpAnyH_ready (rs := [12]) (by kernel_rfl) (by simp) (AllReadyH.cons rfl (fun K hK => ?_) AllReadyH.nil)
  go_simp
  refine (with_any bl el ll.adr lr.adr (1 + max ll.high lr.high) ll (AT.node g1 e lr r (1 + max lr.high r.high)) _ ((hB7.out.block _ (blk_lt hbl)).trans hbl) (AT.In.below hB7.out hll) ⟨Hg1_7.out, (AT.In.below hB7.out hlr), (AT.In.below hB7.out hr)⟩ (by omega) (by simp only [AT.high_node]; omega)).mono ?_
  rintro z x8 ⟨g2, rfl, hg, hb⟩
  have hB8 := Lib.hid (below_next0 hB7.out hb)
  have Hg1_8 := Lib.hid ((hb.block _ (blk_lt Hg1_7.out)).trans Hg1_7.out)
  have Hg2_8 := Lib.hid hg
  clear hb hg
  go_wp2_with fail
  refine hK.out _ _ (hSB.out _ hB8.out) (fun hHeld => ?_)
  clear hK K
  try simp only [Act.put, List.setIfInBounds_toArray, List.set_cons_zero, List.set_cons_succ]
  refine wTake 13 ?_
  try simp only [Act.put, List.setIfInBounds_toArray, List.set_cons_zero, List.set_cons_succ]
  refine wpAnyH_done (by kernel_rfl) ?_ _
  refine NoPanic.normal ?_
  clear hHeld
  go_wp2
  go_ret
  exact ⟨AT.node g2 el ll (AT.node g1 e lr r (1 + max lr.high r.high)) (1 + max ll.high (1 + max lr.high r.high)), rfl, ⟨Hg2_8.out, (AT.In.below hB8.out hll), Hg1_8.out, (AT.In.below hB8.out hlr), (AT.In.below hB8.out hr)⟩, ⟨rfl, tll, rfl, tlr, tr⟩, by simp [AT.row], hB8.out⟩
set_option maxHeartbeats 2000000 in
set_option maxRecDepth 100000 in
theorem level_a2 (b : Nat) (e : Ent) (l0 r0 : Option Addr) (h0 : Int) (bl : Nat) (el : Ent) (ll : AT) (bm : Nat) (em : Ent) (ml mr r : AT) (w : World) (hs : w.heap[b]? = some (.cells #[.string e.key, .string e.key, .string e.val, .int .i64 e.made, .int .i64 e.mod, .pointer l0, .pointer r0, .int .i64 h0] 218 (0, 0))) (hbl : w.heap[bl]? = some (.cells #[.string el.key, .string el.key, .string el.val, .int .i64 el.made, .int .i64 el.mod, .pointer ll.adr, .pointer (some ⟨bm, 0, none⟩), .int .i64 (1 + max ll.high (1 + max ml.high mr.high))] 218 (0, 0))) (hll : ll.In w) (hbm : w.heap[bm]? = some (.cells #[.string em.key, .string em.key, .string em.val, .int .i64 em.made, .int .i64 em.mod, .pointer ml.adr, .pointer mr.adr, .int .i64 (1 + max ml.high mr.high)] 218 (0, 0))) (hml : ml.In w) (hmr : mr.In w) (hr : r.In w) (tll : ll.Tall) (tml : ml.Tall) (tmr : mr.Tall) (tr : r.Tall) (hn : ll.row.length + (ml.row.length + mr.row.length) + r.row.length ≤ 900000000) (h1 : 1 < 1 + max ll.high (1 + max ml.high mr.high) - r.high) (hc : ¬ 1 + max ml.high mr.high ≤ ll.high) :
    Calls Try.prog 178 #[.pointer (some ⟨b, 0, none⟩), .pointer (some ⟨bl, 0, none⟩), .pointer r.adr] w fun x w' => ∃ t : AT, x = .returned (.pointer t.adr) ∧ t.In w' ∧ t.Tall ∧ t.row = (ll.row ++ el :: (ml.row ++ em :: mr.row)) ++ e :: r.row ∧ Below w.heap.size w w' := by
  have q1 := AT.tall_bd tll
  have q2 := AT.tall_bd tr
  have q3 := AT.tall_bd tml
  have q4 := AT.tall_bd tmr
  obtain ⟨d, hd⟩ : ∃ d, d = 1 + max ll.high (1 + max ml.high mr.high) - r.high := ⟨_, rfl⟩
  have hw : wrap64 (1 + max ll.high (1 + max ml.high mr.high) - r.high) = d := by rw [hd]; unfold wrap64; omega
  rw [← hd] at h1
  have HD := Lib.hid hd
  clear hd
  have hSB := Lib.hid (show ∀ W, Below w.heap.size w W → (fun W => W.cell? ⟨b, 0, none⟩ = some (.string e.key) ∧ W.cell? ⟨b, 1, none⟩ = some (.string e.key) ∧ W.cell? ⟨b, 2, none⟩ = some (.string e.val) ∧ W.cell? ⟨b, 3, none⟩ = some (.int .i64 e.made) ∧ W.cell? ⟨b, 4, none⟩ = some (.int .i64 e.mod) ∧ W.cell? ⟨b, 5, none⟩ = some (.pointer l0) ∧ W.cell? ⟨b, 6, none⟩ = some (.pointer r0) ∧ W.cell? ⟨b, 7, none⟩ = some (.int .i64 h0) ∧ W.cell? ⟨bl, 0, none⟩ = some (.string el.key) ∧ W.cell? ⟨bl, 1, none⟩ = some (.string el.key) ∧ W.cell? ⟨bl, 2, none⟩ = some (.string el.val) ∧ W.cell? ⟨bl, 3, none⟩ = some (.int .i64 el.made) ∧ W.cell? ⟨bl, 4, none⟩ = some (.int .i64 el.mod) ∧ W.cell? ⟨bl, 5, none⟩ = some (.pointer ll.adr) ∧ W.cell? ⟨bl, 6, none⟩ = some (.pointer (some ⟨bm, 0, none⟩)) ∧ W.cell? ⟨bl, 7, none⟩ = some (.int .i64 (1 + max ll.high (1 + max ml.high mr.high))) ∧ W.cell? ⟨bm, 0, none⟩ = some (.string em.key) ∧ W.cell? ⟨bm, 1, none⟩ = some (.string em.key) ∧ W.cell? ⟨bm, 2, none⟩ = some (.string em.val) ∧ W.cell? ⟨bm, 3, none⟩ = some (.int .i64 em.made) ∧ W.cell? ⟨bm, 4, none⟩ = some (.int .i64 em.mod) ∧ W.cell? ⟨bm, 5, none⟩ = some (.pointer ml.adr) ∧ W.cell? ⟨bm, 6, none⟩ = some (.pointer mr.adr) ∧ W.cell? ⟨bm, 7, none⟩ = some (.int .i64 (1 + max ml.high mr.high))) W from fun W hW => ⟨(hW.cell (p := ⟨b, 0, none⟩) (blk_lt hs)).trans ((blk_cell hs 0).trans rfl), (hW.cell (p := ⟨b, 1, none⟩) (blk_lt hs)).trans ((blk_cell hs 1).trans rfl), (hW.cell (p := ⟨b, 2, none⟩) (blk_lt hs)).trans ((blk_cell hs 2).trans rfl), (hW.cell (p := ⟨b, 3, none⟩) (blk_lt hs)).trans ((blk_cell hs 3).trans rfl), (hW.cell (p := ⟨b, 4, none⟩) (blk_lt hs)).trans ((blk_cell hs 4).trans rfl), (hW.cell (p := ⟨b, 5, none⟩) (blk_lt hs)).trans ((blk_cell hs 5).trans rfl), (hW.cell (p := ⟨b, 6, none⟩) (blk_lt hs)).trans ((blk_cell hs 6).trans rfl), (hW.cell (p := ⟨b, 7, none⟩) (blk_lt hs)).trans ((blk_cell hs 7).trans rfl), (hW.cell (p := ⟨bl, 0, none⟩) (blk_lt hbl)).trans ((blk_cell hbl 0).trans rfl), (hW.cell (p := ⟨bl, 1, none⟩) (blk_lt hbl)).trans ((blk_cell hbl 1).trans rfl), (hW.cell (p := ⟨bl, 2, none⟩) (blk_lt hbl)).trans ((blk_cell hbl 2).trans rfl), (hW.cell (p := ⟨bl, 3, none⟩) (blk_lt hbl)).trans ((blk_cell hbl 3).trans rfl), (hW.cell (p := ⟨bl, 4, none⟩) (blk_lt hbl)).trans ((blk_cell hbl 4).trans rfl), (hW.cell (p := ⟨bl, 5, none⟩) (blk_lt hbl)).trans ((blk_cell hbl 5).trans rfl), (hW.cell (p := ⟨bl, 6, none⟩) (blk_lt hbl)).trans ((blk_cell hbl 6).trans rfl), (hW.cell (p := ⟨bl, 7, none⟩) (blk_lt hbl)).trans ((blk_cell hbl 7).trans rfl), (hW.cell (p := ⟨bm, 0, none⟩) (blk_lt hbm)).trans ((blk_cell hbm 0).trans rfl), (hW.cell (p := ⟨bm, 1, none⟩) (blk_lt hbm)).trans ((blk_cell hbm 1).trans rfl), (hW.cell (p := ⟨bm, 2, none⟩) (blk_lt hbm)).trans ((blk_cell hbm 2).trans rfl), (hW.cell (p := ⟨bm, 3, none⟩) (blk_lt hbm)).trans ((blk_cell hbm 3).trans rfl), (hW.cell (p := ⟨bm, 4, none⟩) (blk_lt hbm)).trans ((blk_cell hbm 4).trans rfl), (hW.cell (p := ⟨bm, 5, none⟩) (blk_lt hbm)).trans ((blk_cell hbm 5).trans rfl), (hW.cell (p := ⟨bm, 6, none⟩) (blk_lt hbm)).trans ((blk_cell hbm 6).trans rfl), (hW.cell (p := ⟨bm, 7, none⟩) (blk_lt hbm)).trans ((blk_cell hbm 7).trans rfl)⟩)
  have hB0 := Lib.hid (Below.refl w.heap.size w)
  go_enter Try.func178, Try.ntmps178
  go_wp2_with fail
  refine (height_any (AT.node bl el ll (AT.node bm em ml mr (1 + max ml.high mr.high)) (1 + max ll.high (1 + max ml.high mr.high))) _ ⟨((hB0.out.block _ (blk_lt hbl)).trans hbl), (AT.In.below hB0.out hll), (show (AT.node bm em ml mr (1 + max ml.high mr.high)).In _ from ⟨((hB0.out.block _ (blk_lt hbm)).trans hbm), (AT.In.below hB0.out hml), (AT.In.below hB0.out hmr)⟩)⟩).mono ?_
  rintro z x1 ⟨rfl, hb⟩
  have hB1 := Lib.hid (below_next0 hB0.out hb)
  clear hb
  go_wp2_with fail
  refine (height_any r _ (AT.In.below hB1.out hr)).mono ?_
  rintro z x2 ⟨rfl, hb⟩
  have hB2 := Lib.hid (below_next0 hB1.out hb)
  clear hb
  try simp only [AT.high_node]
  have hHeld := hSB.out _ hB2.out
  go_wp2_with fail
  have hB3 := Lib.hid (show Below w.heap.size w x2.drew from below_drew hB2.out)
  refine wp_region_noPanic ?_
  refine wp_region_held_drew (S := fun W => W.cell? ⟨b, 0, none⟩ = some (.string e.key) ∧ W.cell? ⟨b, 1, none⟩ = some (.string e.key) ∧ W.cell? ⟨b, 2, none⟩ = some (.string e.val) ∧ W.cell? ⟨b, 3, none⟩ = some (.int .i64 e.made) ∧ W.cell? ⟨b, 4, none⟩ = some (.int .i64 e.mod) ∧ W.cell? ⟨b, 5, none⟩ = some (.pointer l0) ∧ W.cell? ⟨b, 6, none⟩ = some (.pointer r0) ∧ W.cell? ⟨b, 7, none⟩ = some (.int .i64 h0) ∧ W.cell? ⟨bl, 0, none⟩ = some (.string el.key) ∧ W.cell? ⟨bl, 1, none⟩ = some (.string el.key) ∧ W.cell? ⟨bl, 2, none⟩ = some (.string el.val) ∧ W.cell? ⟨bl, 3, none⟩ = some (.int .i64 el.made) ∧ W.cell? ⟨bl, 4, none⟩ = some (.int .i64 el.mod) ∧ W.cell? ⟨bl, 5, none⟩ = some (.pointer ll.adr) ∧ W.cell? ⟨bl, 6, none⟩ = some (.pointer (some ⟨bm, 0, none⟩)) ∧ W.cell? ⟨bl, 7, none⟩ = some (.int .i64 (1 + max ll.high (1 + max ml.high mr.high))) ∧ W.cell? ⟨bm, 0, none⟩ = some (.string em.key) ∧ W.cell? ⟨bm, 1, none⟩ = some (.string em.key) ∧ W.cell? ⟨bm, 2, none⟩ = some (.string em.val) ∧ W.cell? ⟨bm, 3, none⟩ = some (.int .i64 em.made) ∧ W.cell? ⟨bm, 4, none⟩ = some (.int .i64 em.mod) ∧ W.cell? ⟨bm, 5, none⟩ = some (.pointer ml.adr) ∧ W.cell? ⟨bm, 6, none⟩ = some (.pointer mr.adr) ∧ W.cell? ⟨bm, 7, none⟩ = some (.int .i64 (1 + max ml.high mr.high))) (by kernel_rfl) (hSB.out _ hB3.out) (fun hHeld => ?_)
  refine wTake 0 ?_
  refine wTake 1 ?_
  refine wTake 2 ?_
  try simp only [Act.put, List.setIfInBounds_toArray, List.set_cons_zero, List.set_cons_succ]
  try simp only [decide_eq_true h1]
  refine wTake 3 ?_
  try simp only [Act.put, List.setIfInBounds_toArray, List.set_cons_zero, List.set_cons_succ]
  refine wTake 4 ?_
  try simp only [Act.put, List.setIfInBounds_toArray, List.set_cons_zero, List.set_cons_succ]
  refine wTake 5 ?_
  try simp only [Act.put, List.setIfInBounds_toArray, List.set_cons_zero, List.set_cons_succ]
  refine wTake 6 ?_
  try simp only [Act.put, List.setIfInBounds_toArray, List.set_cons_zero, List.set_cons_succ]
  refine wTake 8 ?_
  try simp only [Act.put, List.setIfInBounds_toArray, List.set_cons_zero, List.set_cons_succ]
  refine wTake 9 ?_
  try simp only [Act.put, List.setIfInBounds_toArray, List.set_cons_zero, List.set_cons_succ]
  refine wTake 10 ?_
  try simp only [Act.put, List.setIfInBounds_toArray, List.set_cons_zero, List.set_cons_succ]
  refine wTake 11 ?_
  try simp only [Act.put, List.setIfInBounds_toArray, List.set_cons_zero, List.set_cons_succ]
  refine wpAnyH_ready (rs := [7]) (by kernel_rfl) (by simp) (AllReadyH.cons rfl (fun K hK => ?_) AllReadyH.nil)
  go_simp
  refine (height_any ll _ (AT.In.below hB3.out hll)).mono ?_
  rintro z x4 ⟨rfl, hb⟩
  have hB4 := Lib.hid (below_next0 hB3.out hb)
  clear hb
  go_wp2_with fail
  refine hK.out _ _ (hSB.out _ hB4.out) (fun hHeld => ?_)
  clear hK K
  try simp only [Act.put, List.setIfInBounds_toArray, List.set_cons_zero, List.set_cons_succ]
  refine wpAnyH_ready (rs := [12]) (by kernel_rfl) (by simp) (AllReadyH.cons rfl (fun K hK => ?_) AllReadyH.nil)
  go_simp
  refine (height_any (AT.node bm em ml mr (1 + max ml.high mr.high)) _ (show (AT.node bm em ml mr (1 + max ml.high mr.high)).In _ from ⟨((hB4.out.block _ (blk_lt hbm)).trans hbm), (AT.In.below hB4.out hml), (AT.In.below hB4.out hmr)⟩)).mono ?_
  rintro z x5 ⟨rfl, hb⟩
  have hB5 := Lib.hid (below_next0 hB4.out hb)
  clear hb
  go_wp2_with fail
  refine hK.out _ _ (hSB.out _ hB5.out) (fun hHeld => ?_)
  clear hK K
  try simp only [Act.put, List.setIfInBounds_toArray, List.set_cons_zero, List.set_cons_succ]
  refine wTake 13 ?_
  refine wTake 14 ?_
  refine wTake 15 ?_
  try simp only [Act.put, List.setIfInBounds_toArray, List.set_cons_zero, List.set_cons_succ]
  refine wpAnyH_done (by kernel_rfl) ?_ _
  refine NoPanic.normal ?_
  clear hHeld
  have hHeld := hSB.out _ hB5.out
  go_wp2_with fail
  have hB6 := Lib.hid (show Below w.heap.size w x5.drew from below_drew hB5.out)
  refine wp_region_noPanic ?_
  refine wp_region_held_drew (S := fun W => W.cell? ⟨b, 0, none⟩ = some (.string e.key) ∧ W.cell? ⟨b, 1, none⟩ = some (.string e.key) ∧ W.cell? ⟨b, 2, none⟩ = some (.string e.val) ∧ W.cell? ⟨b, 3, none⟩ = some (.int .i64 e.made) ∧ W.cell? ⟨b, 4, none⟩ = some (.int .i64 e.mod) ∧ W.cell? ⟨b, 5, none⟩ = some (.pointer l0) ∧ W.cell? ⟨b, 6, none⟩ = some (.pointer r0) ∧ W.cell? ⟨b, 7, none⟩ = some (.int .i64 h0) ∧ W.cell? ⟨bl, 0, none⟩ = some (.string el.key) ∧ W.cell? ⟨bl, 1, none⟩ = some (.string el.key) ∧ W.cell? ⟨bl, 2, none⟩ = some (.string el.val) ∧ W.cell? ⟨bl, 3, none⟩ = some (.int .i64 el.made) ∧ W.cell? ⟨bl, 4, none⟩ = some (.int .i64 el.mod) ∧ W.cell? ⟨bl, 5, none⟩ = some (.pointer ll.adr) ∧ W.cell? ⟨bl, 6, none⟩ = some (.pointer (some ⟨bm, 0, none⟩)) ∧ W.cell? ⟨bl, 7, none⟩ = some (.int .i64 (1 + max ll.high (1 + max ml.high mr.high))) ∧ W.cell? ⟨bm, 0, none⟩ = some (.string em.key) ∧ W.cell? ⟨bm, 1, none⟩ = some (.string em.key) ∧ W.cell? ⟨bm, 2, none⟩ = some (.string em.val) ∧ W.cell? ⟨bm, 3, none⟩ = some (.int .i64 em.made) ∧ W.cell? ⟨bm, 4, none⟩ = some (.int .i64 em.mod) ∧ W.cell? ⟨bm, 5, none⟩ = some (.pointer ml.adr) ∧ W.cell? ⟨bm, 6, none⟩ = some (.pointer mr.adr) ∧ W.cell? ⟨bm, 7, none⟩ = some (.int .i64 (1 + max ml.high mr.high))) (by kernel_rfl) (hSB.out _ hB6.out) (fun hHeld => ?_)
  refine wTake 0 ?_
  refine wTake 1 ?_
  refine wTake 2 ?_
  refine wTake 3 ?_
  refine wTake 4 ?_
  refine wTake 5 ?_
  refine wTake 6 ?_
  refine wTake 7 ?_
  refine wTake 8 ?_
  refine wTake 9 ?_
  refine wTake 11 ?_
  refine wTake 12 ?_
  refine wTake 13 ?_
  refine wTake 14 ?_
  refine wTake 15 ?_
  refine wTake 16 ?_
  try simp only [Act.put, List.setIfInBounds_toArray, List.set_cons_zero, List.set_cons_succ]
  refine wpAnyH_ready (rs := [10]) (by kernel_rfl) (by simp) (AllReadyH.cons rfl (fun K hK => ?_) AllReadyH.nil)
  go_simp
  refine (with_any bl el ll.adr (some ⟨bm, 0, none⟩) (1 + max ll.high (1 + max ml.high mr.high)) ll ml _ ((hB6.out.block _ (blk_lt hbl)).trans hbl) (AT.In.below hB6.out hll) (AT.In.below hB6.out hml) (by omega) (by omega)).mono ?_
  rintro z x7 ⟨g1, rfl, hg, hb⟩
  have hB7 := Lib.hid (below_next0 hB6.out hb)
  have Hg1_7 := Lib.hid hg
  clear hb hg
  go_wp2_with fail
  refine hK.out _ _ (hSB.out _ hB7.out) (fun hHeld => ?_)
  clear hK K
  try simp only [Act.put, List.setIfInBounds_toArray, List.set_cons_zero, List.set_cons_succ]
  refine wpAnyH_ready (rs := [17]) (by kernel_rfl) (by simp) (AllReadyH.cons rfl (fun K hK => ?_) AllReadyH.nil)
  go_simp
  refine (with_any b e l0 r0 h0 mr r _ ((hB7.out.block _ (blk_lt hs)).trans hs) (AT.In.below hB7.out hmr) (AT.In.below hB7.out hr) (by omega) (by omega)).mono ?_
  rintro z x8 ⟨g2, rfl, hg, hb⟩
  have hB8 := Lib.hid (below_next0 hB7.out hb)
  have Hg1_8 := Lib.hid ((hb.block _ (blk_lt Hg1_7.out)).trans Hg1_7.out)
  have Hg2_8 := Lib.hid hg
  clear hb hg
  go_wp2_with fail
  refine hK.out _ _ (hSB.out _ hB8.out) (fun hHeld => ?_)
  clear hK K
  try simp only [Act.put, List.setIfInBounds_toArray, List.set_cons_zero, List.set_cons_succ]
  refine wpAnyH_ready (rs := [18]) (by kernel_rfl) (by simp) (AllReadyH.cons rfl (fun K hK => ?_) AllReadyH.nil)
  go_simp
  refine (with_any bm em ml.adr mr.adr (1 + max ml.high mr.high) (AT.node g1 el ll ml (1 + max ll.high ml.high)) (AT.node g2 e mr r (1 + max mr.high r.high)) _ ((hB8.out.block _ (blk_lt hbm)).trans hbm) ⟨Hg1_8.out, (AT.In.below hB8.out hll), (AT.In.below hB8.out hml)⟩ ⟨Hg2_8.out, (AT.In.below hB8.out hmr), (AT.In.below hB8.out hr)⟩ (by simp only [AT.high_node]; omega) (by simp only [AT.high_node]; omega)).mono ?_
  rintro z x9 ⟨g3, rfl, hg, hb⟩
  have hB9 := Lib.hid (below_next0 hB8.out hb)
  have Hg1_9 := Lib.hid ((hb.block _ (blk_lt Hg1_8.out)).trans Hg1_8.out)
  have Hg2_9 := Lib.hid ((hb.block _ (blk_lt Hg2_8.out)).trans Hg2_8.out)
  have Hg3_9 := Lib.hid hg
  clear hb hg
  go_wp2_with fail
  refine hK.out _ _ (hSB.out _ hB9.out) (fun hHeld => ?_)
  clear hK K
  try simp only [Act.put, List.setIfInBounds_toArray, List.set_cons_zero, List.set_cons_succ]
  refine wTake 19 ?_
  try simp only [Act.put, List.setIfInBounds_toArray, List.set_cons_zero, List.set_cons_succ]
  refine wpAnyH_done (by kernel_rfl) ?_ _
  refine NoPanic.normal ?_
  clear hHeld
  go_wp2
  go_ret
  exact ⟨AT.node g3 em (AT.node g1 el ll ml (1 + max ll.high ml.high)) (AT.node g2 e mr r (1 + max mr.high r.high)) (1 + max (1 + max ll.high ml.high) (1 + max mr.high r.high)), rfl, ⟨Hg3_9.out, ⟨Hg1_9.out, (AT.In.below hB9.out hll), (AT.In.below hB9.out hml)⟩, ⟨Hg2_9.out, (AT.In.below hB9.out hmr), (AT.In.below hB9.out hr)⟩⟩, ⟨rfl, ⟨rfl, tll, tml⟩, ⟨rfl, tmr, tr⟩⟩, by simp [AT.row], hB9.out⟩
set_option maxHeartbeats 2000000 in
set_option maxRecDepth 100000 in
theorem level_b1 (b : Nat) (e : Ent) (l0 r0 : Option Addr) (h0 : Int) (l : AT) (br : Nat) (er : Ent) (rl rr : AT) (w : World) (hs : w.heap[b]? = some (.cells #[.string e.key, .string e.key, .string e.val, .int .i64 e.made, .int .i64 e.mod, .pointer l0, .pointer r0, .int .i64 h0] 218 (0, 0))) (hbr : w.heap[br]? = some (.cells #[.string er.key, .string er.key, .string er.val, .int .i64 er.made, .int .i64 er.mod, .pointer rl.adr, .pointer rr.adr, .int .i64 (1 + max rl.high rr.high)] 218 (0, 0))) (hrr : rr.In w) (hrl : rl.In w) (hl : l.In w) (trr : rr.Tall) (trl : rl.Tall) (tl : l.Tall) (hn : rr.row.length + rl.row.length + l.row.length ≤ 900000000) (h2 : l.high - (1 + max rl.high rr.high) < -1) (hc : rl.high ≤ rr.high) :
    Calls Try.prog 178 #[.pointer (some ⟨b, 0, none⟩), .pointer l.adr, .pointer (some ⟨br, 0, none⟩)] w fun x w' => ∃ t : AT, x = .returned (.pointer t.adr) ∧ t.In w' ∧ t.Tall ∧ t.row = l.row ++ e :: (rl.row ++ er :: rr.row) ∧ Below w.heap.size w w' := by
  have q1 := AT.tall_bd trr
  have q2 := AT.tall_bd tl
  have q3 := AT.tall_bd trl
  obtain ⟨d, hd⟩ : ∃ d, d = l.high - (1 + max rl.high rr.high) := ⟨_, rfl⟩
  have hw : wrap64 (l.high - (1 + max rl.high rr.high)) = d := by rw [hd]; unfold wrap64; omega
  rw [← hd] at h2
  have HD := Lib.hid hd
  clear hd
  have hSB := Lib.hid (show ∀ W, Below w.heap.size w W → (fun W => W.cell? ⟨b, 0, none⟩ = some (.string e.key) ∧ W.cell? ⟨b, 1, none⟩ = some (.string e.key) ∧ W.cell? ⟨b, 2, none⟩ = some (.string e.val) ∧ W.cell? ⟨b, 3, none⟩ = some (.int .i64 e.made) ∧ W.cell? ⟨b, 4, none⟩ = some (.int .i64 e.mod) ∧ W.cell? ⟨b, 5, none⟩ = some (.pointer l0) ∧ W.cell? ⟨b, 6, none⟩ = some (.pointer r0) ∧ W.cell? ⟨b, 7, none⟩ = some (.int .i64 h0) ∧ W.cell? ⟨br, 0, none⟩ = some (.string er.key) ∧ W.cell? ⟨br, 1, none⟩ = some (.string er.key) ∧ W.cell? ⟨br, 2, none⟩ = some (.string er.val) ∧ W.cell? ⟨br, 3, none⟩ = some (.int .i64 er.made) ∧ W.cell? ⟨br, 4, none⟩ = some (.int .i64 er.mod) ∧ W.cell? ⟨br, 5, none⟩ = some (.pointer rl.adr) ∧ W.cell? ⟨br, 6, none⟩ = some (.pointer rr.adr) ∧ W.cell? ⟨br, 7, none⟩ = some (.int .i64 (1 + max rl.high rr.high))) W from fun W hW => ⟨(hW.cell (p := ⟨b, 0, none⟩) (blk_lt hs)).trans ((blk_cell hs 0).trans rfl), (hW.cell (p := ⟨b, 1, none⟩) (blk_lt hs)).trans ((blk_cell hs 1).trans rfl), (hW.cell (p := ⟨b, 2, none⟩) (blk_lt hs)).trans ((blk_cell hs 2).trans rfl), (hW.cell (p := ⟨b, 3, none⟩) (blk_lt hs)).trans ((blk_cell hs 3).trans rfl), (hW.cell (p := ⟨b, 4, none⟩) (blk_lt hs)).trans ((blk_cell hs 4).trans rfl), (hW.cell (p := ⟨b, 5, none⟩) (blk_lt hs)).trans ((blk_cell hs 5).trans rfl), (hW.cell (p := ⟨b, 6, none⟩) (blk_lt hs)).trans ((blk_cell hs 6).trans rfl), (hW.cell (p := ⟨b, 7, none⟩) (blk_lt hs)).trans ((blk_cell hs 7).trans rfl), (hW.cell (p := ⟨br, 0, none⟩) (blk_lt hbr)).trans ((blk_cell hbr 0).trans rfl), (hW.cell (p := ⟨br, 1, none⟩) (blk_lt hbr)).trans ((blk_cell hbr 1).trans rfl), (hW.cell (p := ⟨br, 2, none⟩) (blk_lt hbr)).trans ((blk_cell hbr 2).trans rfl), (hW.cell (p := ⟨br, 3, none⟩) (blk_lt hbr)).trans ((blk_cell hbr 3).trans rfl), (hW.cell (p := ⟨br, 4, none⟩) (blk_lt hbr)).trans ((blk_cell hbr 4).trans rfl), (hW.cell (p := ⟨br, 5, none⟩) (blk_lt hbr)).trans ((blk_cell hbr 5).trans rfl), (hW.cell (p := ⟨br, 6, none⟩) (blk_lt hbr)).trans ((blk_cell hbr 6).trans rfl), (hW.cell (p := ⟨br, 7, none⟩) (blk_lt hbr)).trans ((blk_cell hbr 7).trans rfl)⟩)
  have hB0 := Lib.hid (Below.refl w.heap.size w)
  go_enter Try.func178, Try.ntmps178
  go_wp2_with fail
  refine (height_any l _ (AT.In.below hB0.out hl)).mono ?_
  rintro z x1 ⟨rfl, hb⟩
  have hB1 := Lib.hid (below_next0 hB0.out hb)
  clear hb
  go_wp2_with fail
  refine (height_any (AT.node br er rl rr (1 + max rl.high rr.high)) _ ⟨((hB1.out.block _ (blk_lt hbr)).trans hbr), (AT.In.below hB1.out hrl), (AT.In.below hB1.out hrr)⟩).mono ?_
  rintro z x2 ⟨rfl, hb⟩
  have hB2 := Lib.hid (below_next0 hB1.out hb)
  clear hb
  try simp only [AT.high_node]
  have hHeld := hSB.out _ hB2.out
  go_wp2_with fail
  have hB3 := Lib.hid (show Below w.heap.size w x2.drew from below_drew hB2.out)
  refine wp_region_noPanic ?_
  refine wp_region_held_drew (S := fun W => W.cell? ⟨b, 0, none⟩ = some (.string e.key) ∧ W.cell? ⟨b, 1, none⟩ = some (.string e.key) ∧ W.cell? ⟨b, 2, none⟩ = some (.string e.val) ∧ W.cell? ⟨b, 3, none⟩ = some (.int .i64 e.made) ∧ W.cell? ⟨b, 4, none⟩ = some (.int .i64 e.mod) ∧ W.cell? ⟨b, 5, none⟩ = some (.pointer l0) ∧ W.cell? ⟨b, 6, none⟩ = some (.pointer r0) ∧ W.cell? ⟨b, 7, none⟩ = some (.int .i64 h0) ∧ W.cell? ⟨br, 0, none⟩ = some (.string er.key) ∧ W.cell? ⟨br, 1, none⟩ = some (.string er.key) ∧ W.cell? ⟨br, 2, none⟩ = some (.string er.val) ∧ W.cell? ⟨br, 3, none⟩ = some (.int .i64 er.made) ∧ W.cell? ⟨br, 4, none⟩ = some (.int .i64 er.mod) ∧ W.cell? ⟨br, 5, none⟩ = some (.pointer rl.adr) ∧ W.cell? ⟨br, 6, none⟩ = some (.pointer rr.adr) ∧ W.cell? ⟨br, 7, none⟩ = some (.int .i64 (1 + max rl.high rr.high))) (by kernel_rfl) (hSB.out _ hB3.out) (fun hHeld => ?_)
  refine wTake 0 ?_
  refine wTake 1 ?_
  refine wTake 2 ?_
  try simp only [Act.put, List.setIfInBounds_toArray, List.set_cons_zero, List.set_cons_succ]
  try simp only [decide_eq_false (show ¬ 1 < d by omega)]
  refine wSkip 3 ?_
  try simp only [Act.put, List.setIfInBounds_toArray, List.set_cons_zero, List.set_cons_succ]
  refine wSkip 4 ?_
  try simp only [Act.put, List.setIfInBounds_toArray, List.set_cons_zero, List.set_cons_succ]
  refine wSkip 5 ?_
  try simp only [Act.put, List.setIfInBounds_toArray, List.set_cons_zero, List.set_cons_succ]
  refine wSkip 6 ?_
  try simp only [Act.put, List.setIfInBounds_toArray, List.set_cons_zero, List.set_cons_succ]
  refine wSkip 7 ?_
  try simp only [Act.put, List.setIfInBounds_toArray, List.set_cons_zero, List.set_cons_succ]
  refine wSkip 8 ?_
  try simp only [Act.put, List.setIfInBounds_toArray, List.set_cons_zero, List.set_cons_succ]
  refine wSkip 9 ?_
  try simp only [Act.put, List.setIfInBounds_toArray, List.set_cons_zero, List.set_cons_succ]
  refine wSkip 10 ?_
  try simp only [Act.put, List.setIfInBounds_toArray, List.set_cons_zero, List.set_cons_succ]
  refine wSkip 11 ?_
  try simp only [Act.put, List.setIfInBounds_toArray, List.set_cons_zero, List.set_cons_succ]
  refine wSkip 12 ?_
  try simp only [Act.put, List.setIfInBounds_toArray, List.set_cons_zero, List.set_cons_succ]
  refine wSkip 13 ?_
  refine wTake 14 ?_
  refine wTake 15 ?_
  try simp only [Act.put, List.setIfInBounds_toArray, List.set_cons_zero, List.set_cons_succ]
  refine wpAnyH_done (by kernel_rfl) ?_ _
  refine NoPanic.normal ?_
  generalize x2.drew = v1 at *
  clear hHeld
  have h1 : ¬ 1 < d := by omega
  have hHeld := hSB.out _ hB3.out
  go_wp2_with fail
  have hB4 := Lib.hid (show Below w.heap.size w v1.drew from below_drew hB3.out)
  refine wp_region_noPanic ?_
  refine wp_region_held_drew (S := fun W => W.cell? ⟨b, 0, none⟩ = some (.string e.key) ∧ W.cell? ⟨b, 1, none⟩ = some (.string e.key) ∧ W.cell? ⟨b, 2, none⟩ = some (.string e.val) ∧ W.cell? ⟨b, 3, none⟩ = some (.int .i64 e.made) ∧ W.cell? ⟨b, 4, none⟩ = some (.int .i64 e.mod) ∧ W.cell? ⟨b, 5, none⟩ = some (.pointer l0) ∧ W.cell? ⟨b, 6, none⟩ = some (.pointer r0) ∧ W.cell? ⟨b, 7, none⟩ = some (.int .i64 h0) ∧ W.cell? ⟨br, 0, none⟩ = some (.string er.key) ∧ W.cell? ⟨br, 1, none⟩ = some (.string er.key) ∧ W.cell? ⟨br, 2, none⟩ = some (.string er.val) ∧ W.cell? ⟨br, 3, none⟩ = some (.int .i64 er.made) ∧ W.cell? ⟨br, 4, none⟩ = some (.int .i64 er.mod) ∧ W.cell? ⟨br, 5, none⟩ = some (.pointer rl.adr) ∧ W.cell? ⟨br, 6, none⟩ = some (.pointer rr.adr) ∧ W.cell? ⟨br, 7, none⟩ = some (.int .i64 (1 + max rl.high rr.high))) (by kernel_rfl) (hSB.out _ hB4.out) (fun hHeld => ?_)
  refine wTake 0 ?_
  refine wTake 1 ?_
  refine wTake 2 ?_
  try simp only [Act.put, List.setIfInBounds_toArray, List.set_cons_zero, List.set_cons_succ]
  try simp only [decide_eq_true h2]
  refine wTake 3 ?_
  try simp only [Act.put, List.setIfInBounds_toArray, List.set_cons_zero, List.set_cons_succ]
  refine wTake 4 ?_
  try simp only [Act.put, List.setIfInBounds_toArray, List.set_cons_zero, List.set_cons_succ]
  refine wTake 5 ?_
  try simp only [Act.put, List.setIfInBounds_toArray, List.set_cons_zero, List.set_cons_succ]
  refine wTake 6 ?_
  try simp only [Act.put, List.setIfInBounds_toArray, List.set_cons_zero, List.set_cons_succ]
  refine wTake 8 ?_
  try simp only [Act.put, List.setIfInBounds_toArray, List.set_cons_zero, List.set_cons_succ]
  refine wTake 9 ?_
  try simp only [Act.put, List.setIfInBounds_toArray, List.set_cons_zero, List.set_cons_succ]
  refine wTake 10 ?_
  try simp only [Act.put, List.setIfInBounds_toArray, List.set_cons_zero, List.set_cons_succ]
  refine wTake 11 ?_
  try simp only [Act.put, List.setIfInBounds_toArray, List.set_cons_zero, List.set_cons_succ]
  refine wpAnyH_ready (rs := [7]) (by kernel_rfl) (by simp) (AllReadyH.cons rfl (fun K hK => ?_) AllReadyH.nil)
  go_simp
  refine (height_any rr _ (AT.In.below hB4.out hrr)).mono ?_
  rintro z x5 ⟨rfl, hb⟩
  have hB5 := Lib.hid (below_next0 hB4.out hb)
  clear hb
  go_wp2_with fail
  refine hK.out _ _ (hSB.out _ hB5.out) (fun hHeld => ?_)
  clear hK K
  try simp only [Act.put, List.setIfInBounds_toArray, List.set_cons_zero, List.set_cons_succ]
  refine wpAnyH_ready (rs := [12]) (by kernel_rfl) (by simp) (AllReadyH.cons rfl (fun K hK => ?_) AllReadyH.nil)
  go_simp
  refine (height_any rl _ (AT.In.below hB5.out hrl)).mono ?_
  rintro z x6 ⟨rfl, hb⟩
  have hB6 := Lib.hid (below_next0 hB5.out hb)
  clear hb
  go_wp2_with fail
  refine hK.out _ _ (hSB.out _ hB6.out) (fun hHeld => ?_)
  clear hK K
  try simp only [Act.put, List.setIfInBounds_toArray, List.set_cons_zero, List.set_cons_succ]
  refine wTake 13 ?_
  refine wTake 14 ?_
  refine wTake 15 ?_
  try simp only [Act.put, List.setIfInBounds_toArray, List.set_cons_zero, List.set_cons_succ]
  refine wpAnyH_done (by kernel_rfl) ?_ _
  refine NoPanic.normal ?_
  clear hHeld
  have hHeld := hSB.out _ hB6.out
  go_wp2_with fail
  have hB7 := Lib.hid (show Below w.heap.size w x6.drew from below_drew hB6.out)
  refine wp_region_noPanic ?_
  refine wp_region_held_drew (S := fun W => W.cell? ⟨b, 0, none⟩ = some (.string e.key) ∧ W.cell? ⟨b, 1, none⟩ = some (.string e.key) ∧ W.cell? ⟨b, 2, none⟩ = some (.string e.val) ∧ W.cell? ⟨b, 3, none⟩ = some (.int .i64 e.made) ∧ W.cell? ⟨b, 4, none⟩ = some (.int .i64 e.mod) ∧ W.cell? ⟨b, 5, none⟩ = some (.pointer l0) ∧ W.cell? ⟨b, 6, none⟩ = some (.pointer r0) ∧ W.cell? ⟨b, 7, none⟩ = some (.int .i64 h0) ∧ W.cell? ⟨br, 0, none⟩ = some (.string er.key) ∧ W.cell? ⟨br, 1, none⟩ = some (.string er.key) ∧ W.cell? ⟨br, 2, none⟩ = some (.string er.val) ∧ W.cell? ⟨br, 3, none⟩ = some (.int .i64 er.made) ∧ W.cell? ⟨br, 4, none⟩ = some (.int .i64 er.mod) ∧ W.cell? ⟨br, 5, none⟩ = some (.pointer rl.adr) ∧ W.cell? ⟨br, 6, none⟩ = some (.pointer rr.adr) ∧ W.cell? ⟨br, 7, none⟩ = some (.int .i64 (1 + max rl.high rr.high))) (by kernel_rfl) (hSB.out _ hB7.out) (fun hHeld => ?_)
  refine wTake 0 ?_
  refine wTake 1 ?_
  refine wTake 2 ?_
  refine wTake 3 ?_
  refine wTake 4 ?_
  refine wTake 5 ?_
  refine wTake 6 ?_
  refine wTake 8 ?_
  refine wTake 9 ?_
  refine wTake 10 ?_
  refine wTake 11 ?_
  try simp only [Act.put, List.setIfInBounds_toArray, List.set_cons_zero, List.set_cons_succ]
  refine wpAnyH_ready (rs := [7]) (by kernel_rfl) (by simp) (AllReadyH.cons rfl (fun K hK => ?_) AllReadyH.nil)
  go_simp
  refine (with_any b e l0 r0 h0 l rl _ ((hB7.out.block _ (blk_lt hs)).trans hs) (AT.In.below hB7.out hl) (AT.In.below hB7.out hrl) (by omega) (by omega)).mono ?_
  rintro z x8 ⟨g1, rfl, hg, hb⟩
  have hB8 := Lib.hid (below_next0 hB7.out hb)
  have Hg1_8 := Lib.hid hg
  clear hb hg
  go_wp2_with fail
  refine hK.out _ _ (hSB.out _ hB8.out) (fun hHeld => ?_)
  clear hK K
  try simp only [Act.put, List.setIfInBounds_toArray, List.set_cons_zero, List.set_cons_succ]
  refine wpAnyH_ready (rs := [12]) (by kernel_rfl) (by simp) (AllReadyH.cons rfl (fun K hK => ?_) AllReadyH.nil)
  go_simp
  refine (with_any br er rl.adr rr.adr (1 + max rl.high rr.high) (AT.node g1 e l rl (1 + max l.high rl.high)) rr _ ((hB8.out.block _ (blk_lt hbr)).trans hbr) ⟨Hg1_8.out, (AT.In.below hB8.out hl), (AT.In.below hB8.out hrl)⟩ (AT.In.below hB8.out hrr) (by simp only [AT.high_node]; omega) (by omega)).mono ?_
  rintro z x9 ⟨g2, rfl, hg, hb⟩
  have hB9 := Lib.hid (below_next0 hB8.out hb)
  have Hg1_9 := Lib.hid ((hb.block _ (blk_lt Hg1_8.out)).trans Hg1_8.out)
  have Hg2_9 := Lib.hid hg
  clear hb hg
  go_wp2_with fail
  refine hK.out _ _ (hSB.out _ hB9.out) (fun hHeld => ?_)
  clear hK K
  try simp only [Act.put, List.setIfInBounds_toArray, List.set_cons_zero, List.set_cons_succ]
  refine wTake 13 ?_
  try simp only [Act.put, List.setIfInBounds_toArray, List.set_cons_zero, List.set_cons_succ]
  refine wpAnyH_done (by kernel_rfl) ?_ _
  refine NoPanic.normal ?_
  clear hHeld
  go_wp2
  go_ret
  exact ⟨AT.node g2 er (AT.node g1 e l rl (1 + max l.high rl.high)) rr (1 + max (1 + max l.high rl.high) rr.high), rfl, ⟨Hg2_9.out, ⟨Hg1_9.out, (AT.In.below hB9.out hl), (AT.In.below hB9.out hrl)⟩, (AT.In.below hB9.out hrr)⟩, ⟨rfl, ⟨rfl, tl, trl⟩, trr⟩, by simp [AT.row], hB9.out⟩
set_option maxHeartbeats 2000000 in
set_option maxRecDepth 100000 in
theorem level_b2 (b : Nat) (e : Ent) (l0 r0 : Option Addr) (h0 : Int) (l : AT) (br : Nat) (er : Ent) (bm : Nat) (em : Ent) (ml mr rr : AT) (w : World) (hs : w.heap[b]? = some (.cells #[.string e.key, .string e.key, .string e.val, .int .i64 e.made, .int .i64 e.mod, .pointer l0, .pointer r0, .int .i64 h0] 218 (0, 0))) (hbr : w.heap[br]? = some (.cells #[.string er.key, .string er.key, .string er.val, .int .i64 er.made, .int .i64 er.mod, .pointer (some ⟨bm, 0, none⟩), .pointer rr.adr, .int .i64 (1 + max (1 + max ml.high mr.high) rr.high)] 218 (0, 0))) (hrr : rr.In w) (hbm : w.heap[bm]? = some (.cells #[.string em.key, .string em.key, .string em.val, .int .i64 em.made, .int .i64 em.mod, .pointer ml.adr, .pointer mr.adr, .int .i64 (1 + max ml.high mr.high)] 218 (0, 0))) (hml : ml.In w) (hmr : mr.In w) (hl : l.In w) (trr : rr.Tall) (tml : ml.Tall) (tmr : mr.Tall) (tl : l.Tall) (hn : rr.row.length + (ml.row.length + mr.row.length) + l.row.length ≤ 900000000) (h2 : l.high - (1 + max (1 + max ml.high mr.high) rr.high) < -1) (hc : ¬ 1 + max ml.high mr.high ≤ rr.high) :
    Calls Try.prog 178 #[.pointer (some ⟨b, 0, none⟩), .pointer l.adr, .pointer (some ⟨br, 0, none⟩)] w fun x w' => ∃ t : AT, x = .returned (.pointer t.adr) ∧ t.In w' ∧ t.Tall ∧ t.row = l.row ++ e :: ((ml.row ++ em :: mr.row) ++ er :: rr.row) ∧ Below w.heap.size w w' := by
  have q1 := AT.tall_bd trr
  have q2 := AT.tall_bd tl
  have q3 := AT.tall_bd tml
  have q4 := AT.tall_bd tmr
  obtain ⟨d, hd⟩ : ∃ d, d = l.high - (1 + max (1 + max ml.high mr.high) rr.high) := ⟨_, rfl⟩
  have hw : wrap64 (l.high - (1 + max (1 + max ml.high mr.high) rr.high)) = d := by rw [hd]; unfold wrap64; omega
  rw [← hd] at h2
  have HD := Lib.hid hd
  clear hd
  have hSB := Lib.hid (show ∀ W, Below w.heap.size w W → (fun W => W.cell? ⟨b, 0, none⟩ = some (.string e.key) ∧ W.cell? ⟨b, 1, none⟩ = some (.string e.key) ∧ W.cell? ⟨b, 2, none⟩ = some (.string e.val) ∧ W.cell? ⟨b, 3, none⟩ = some (.int .i64 e.made) ∧ W.cell? ⟨b, 4, none⟩ = some (.int .i64 e.mod) ∧ W.cell? ⟨b, 5, none⟩ = some (.pointer l0) ∧ W.cell? ⟨b, 6, none⟩ = some (.pointer r0) ∧ W.cell? ⟨b, 7, none⟩ = some (.int .i64 h0) ∧ W.cell? ⟨br, 0, none⟩ = some (.string er.key) ∧ W.cell? ⟨br, 1, none⟩ = some (.string er.key) ∧ W.cell? ⟨br, 2, none⟩ = some (.string er.val) ∧ W.cell? ⟨br, 3, none⟩ = some (.int .i64 er.made) ∧ W.cell? ⟨br, 4, none⟩ = some (.int .i64 er.mod) ∧ W.cell? ⟨br, 5, none⟩ = some (.pointer (some ⟨bm, 0, none⟩)) ∧ W.cell? ⟨br, 6, none⟩ = some (.pointer rr.adr) ∧ W.cell? ⟨br, 7, none⟩ = some (.int .i64 (1 + max (1 + max ml.high mr.high) rr.high)) ∧ W.cell? ⟨bm, 0, none⟩ = some (.string em.key) ∧ W.cell? ⟨bm, 1, none⟩ = some (.string em.key) ∧ W.cell? ⟨bm, 2, none⟩ = some (.string em.val) ∧ W.cell? ⟨bm, 3, none⟩ = some (.int .i64 em.made) ∧ W.cell? ⟨bm, 4, none⟩ = some (.int .i64 em.mod) ∧ W.cell? ⟨bm, 5, none⟩ = some (.pointer ml.adr) ∧ W.cell? ⟨bm, 6, none⟩ = some (.pointer mr.adr) ∧ W.cell? ⟨bm, 7, none⟩ = some (.int .i64 (1 + max ml.high mr.high))) W from fun W hW => ⟨(hW.cell (p := ⟨b, 0, none⟩) (blk_lt hs)).trans ((blk_cell hs 0).trans rfl), (hW.cell (p := ⟨b, 1, none⟩) (blk_lt hs)).trans ((blk_cell hs 1).trans rfl), (hW.cell (p := ⟨b, 2, none⟩) (blk_lt hs)).trans ((blk_cell hs 2).trans rfl), (hW.cell (p := ⟨b, 3, none⟩) (blk_lt hs)).trans ((blk_cell hs 3).trans rfl), (hW.cell (p := ⟨b, 4, none⟩) (blk_lt hs)).trans ((blk_cell hs 4).trans rfl), (hW.cell (p := ⟨b, 5, none⟩) (blk_lt hs)).trans ((blk_cell hs 5).trans rfl), (hW.cell (p := ⟨b, 6, none⟩) (blk_lt hs)).trans ((blk_cell hs 6).trans rfl), (hW.cell (p := ⟨b, 7, none⟩) (blk_lt hs)).trans ((blk_cell hs 7).trans rfl), (hW.cell (p := ⟨br, 0, none⟩) (blk_lt hbr)).trans ((blk_cell hbr 0).trans rfl), (hW.cell (p := ⟨br, 1, none⟩) (blk_lt hbr)).trans ((blk_cell hbr 1).trans rfl), (hW.cell (p := ⟨br, 2, none⟩) (blk_lt hbr)).trans ((blk_cell hbr 2).trans rfl), (hW.cell (p := ⟨br, 3, none⟩) (blk_lt hbr)).trans ((blk_cell hbr 3).trans rfl), (hW.cell (p := ⟨br, 4, none⟩) (blk_lt hbr)).trans ((blk_cell hbr 4).trans rfl), (hW.cell (p := ⟨br, 5, none⟩) (blk_lt hbr)).trans ((blk_cell hbr 5).trans rfl), (hW.cell (p := ⟨br, 6, none⟩) (blk_lt hbr)).trans ((blk_cell hbr 6).trans rfl), (hW.cell (p := ⟨br, 7, none⟩) (blk_lt hbr)).trans ((blk_cell hbr 7).trans rfl), (hW.cell (p := ⟨bm, 0, none⟩) (blk_lt hbm)).trans ((blk_cell hbm 0).trans rfl), (hW.cell (p := ⟨bm, 1, none⟩) (blk_lt hbm)).trans ((blk_cell hbm 1).trans rfl), (hW.cell (p := ⟨bm, 2, none⟩) (blk_lt hbm)).trans ((blk_cell hbm 2).trans rfl), (hW.cell (p := ⟨bm, 3, none⟩) (blk_lt hbm)).trans ((blk_cell hbm 3).trans rfl), (hW.cell (p := ⟨bm, 4, none⟩) (blk_lt hbm)).trans ((blk_cell hbm 4).trans rfl), (hW.cell (p := ⟨bm, 5, none⟩) (blk_lt hbm)).trans ((blk_cell hbm 5).trans rfl), (hW.cell (p := ⟨bm, 6, none⟩) (blk_lt hbm)).trans ((blk_cell hbm 6).trans rfl), (hW.cell (p := ⟨bm, 7, none⟩) (blk_lt hbm)).trans ((blk_cell hbm 7).trans rfl)⟩)
  have hB0 := Lib.hid (Below.refl w.heap.size w)
  go_enter Try.func178, Try.ntmps178
  go_wp2_with fail
  refine (height_any l _ (AT.In.below hB0.out hl)).mono ?_
  rintro z x1 ⟨rfl, hb⟩
  have hB1 := Lib.hid (below_next0 hB0.out hb)
  clear hb
  go_wp2_with fail
  refine (height_any (AT.node br er (AT.node bm em ml mr (1 + max ml.high mr.high)) rr (1 + max (1 + max ml.high mr.high) rr.high)) _ ⟨((hB1.out.block _ (blk_lt hbr)).trans hbr), (show (AT.node bm em ml mr (1 + max ml.high mr.high)).In _ from ⟨((hB1.out.block _ (blk_lt hbm)).trans hbm), (AT.In.below hB1.out hml), (AT.In.below hB1.out hmr)⟩), (AT.In.below hB1.out hrr)⟩).mono ?_
  rintro z x2 ⟨rfl, hb⟩
  have hB2 := Lib.hid (below_next0 hB1.out hb)
  clear hb
  try simp only [AT.high_node]
  have hHeld := hSB.out _ hB2.out
  go_wp2_with fail
  have hB3 := Lib.hid (show Below w.heap.size w x2.drew from below_drew hB2.out)
  refine wp_region_noPanic ?_
  refine wp_region_held_drew (S := fun W => W.cell? ⟨b, 0, none⟩ = some (.string e.key) ∧ W.cell? ⟨b, 1, none⟩ = some (.string e.key) ∧ W.cell? ⟨b, 2, none⟩ = some (.string e.val) ∧ W.cell? ⟨b, 3, none⟩ = some (.int .i64 e.made) ∧ W.cell? ⟨b, 4, none⟩ = some (.int .i64 e.mod) ∧ W.cell? ⟨b, 5, none⟩ = some (.pointer l0) ∧ W.cell? ⟨b, 6, none⟩ = some (.pointer r0) ∧ W.cell? ⟨b, 7, none⟩ = some (.int .i64 h0) ∧ W.cell? ⟨br, 0, none⟩ = some (.string er.key) ∧ W.cell? ⟨br, 1, none⟩ = some (.string er.key) ∧ W.cell? ⟨br, 2, none⟩ = some (.string er.val) ∧ W.cell? ⟨br, 3, none⟩ = some (.int .i64 er.made) ∧ W.cell? ⟨br, 4, none⟩ = some (.int .i64 er.mod) ∧ W.cell? ⟨br, 5, none⟩ = some (.pointer (some ⟨bm, 0, none⟩)) ∧ W.cell? ⟨br, 6, none⟩ = some (.pointer rr.adr) ∧ W.cell? ⟨br, 7, none⟩ = some (.int .i64 (1 + max (1 + max ml.high mr.high) rr.high)) ∧ W.cell? ⟨bm, 0, none⟩ = some (.string em.key) ∧ W.cell? ⟨bm, 1, none⟩ = some (.string em.key) ∧ W.cell? ⟨bm, 2, none⟩ = some (.string em.val) ∧ W.cell? ⟨bm, 3, none⟩ = some (.int .i64 em.made) ∧ W.cell? ⟨bm, 4, none⟩ = some (.int .i64 em.mod) ∧ W.cell? ⟨bm, 5, none⟩ = some (.pointer ml.adr) ∧ W.cell? ⟨bm, 6, none⟩ = some (.pointer mr.adr) ∧ W.cell? ⟨bm, 7, none⟩ = some (.int .i64 (1 + max ml.high mr.high))) (by kernel_rfl) (hSB.out _ hB3.out) (fun hHeld => ?_)
  refine wTake 0 ?_
  refine wTake 1 ?_
  refine wTake 2 ?_
  try simp only [Act.put, List.setIfInBounds_toArray, List.set_cons_zero, List.set_cons_succ]
  try simp only [decide_eq_false (show ¬ 1 < d by omega)]
  refine wSkip 3 ?_
  try simp only [Act.put, List.setIfInBounds_toArray, List.set_cons_zero, List.set_cons_succ]
  refine wSkip 4 ?_
  try simp only [Act.put, List.setIfInBounds_toArray, List.set_cons_zero, List.set_cons_succ]
  refine wSkip 5 ?_
  try simp only [Act.put, List.setIfInBounds_toArray, List.set_cons_zero, List.set_cons_succ]
  refine wSkip 6 ?_
  try simp only [Act.put, List.setIfInBounds_toArray, List.set_cons_zero, List.set_cons_succ]
  refine wSkip 7 ?_
  try simp only [Act.put, List.setIfInBounds_toArray, List.set_cons_zero, List.set_cons_succ]
  refine wSkip 8 ?_
  try simp only [Act.put, List.setIfInBounds_toArray, List.set_cons_zero, List.set_cons_succ]
  refine wSkip 9 ?_
  try simp only [Act.put, List.setIfInBounds_toArray, List.set_cons_zero, List.set_cons_succ]
  refine wSkip 10 ?_
  try simp only [Act.put, List.setIfInBounds_toArray, List.set_cons_zero, List.set_cons_succ]
  refine wSkip 11 ?_
  try simp only [Act.put, List.setIfInBounds_toArray, List.set_cons_zero, List.set_cons_succ]
  refine wSkip 12 ?_
  try simp only [Act.put, List.setIfInBounds_toArray, List.set_cons_zero, List.set_cons_succ]
  refine wSkip 13 ?_
  refine wTake 14 ?_
  refine wTake 15 ?_
  try simp only [Act.put, List.setIfInBounds_toArray, List.set_cons_zero, List.set_cons_succ]
  refine wpAnyH_done (by kernel_rfl) ?_ _
  refine NoPanic.normal ?_
  generalize x2.drew = v1 at *
  clear hHeld
  have h1 : ¬ 1 < d := by omega
  have hHeld := hSB.out _ hB3.out
  go_wp2_with fail
  have hB4 := Lib.hid (show Below w.heap.size w v1.drew from below_drew hB3.out)
  refine wp_region_noPanic ?_
  refine wp_region_held_drew (S := fun W => W.cell? ⟨b, 0, none⟩ = some (.string e.key) ∧ W.cell? ⟨b, 1, none⟩ = some (.string e.key) ∧ W.cell? ⟨b, 2, none⟩ = some (.string e.val) ∧ W.cell? ⟨b, 3, none⟩ = some (.int .i64 e.made) ∧ W.cell? ⟨b, 4, none⟩ = some (.int .i64 e.mod) ∧ W.cell? ⟨b, 5, none⟩ = some (.pointer l0) ∧ W.cell? ⟨b, 6, none⟩ = some (.pointer r0) ∧ W.cell? ⟨b, 7, none⟩ = some (.int .i64 h0) ∧ W.cell? ⟨br, 0, none⟩ = some (.string er.key) ∧ W.cell? ⟨br, 1, none⟩ = some (.string er.key) ∧ W.cell? ⟨br, 2, none⟩ = some (.string er.val) ∧ W.cell? ⟨br, 3, none⟩ = some (.int .i64 er.made) ∧ W.cell? ⟨br, 4, none⟩ = some (.int .i64 er.mod) ∧ W.cell? ⟨br, 5, none⟩ = some (.pointer (some ⟨bm, 0, none⟩)) ∧ W.cell? ⟨br, 6, none⟩ = some (.pointer rr.adr) ∧ W.cell? ⟨br, 7, none⟩ = some (.int .i64 (1 + max (1 + max ml.high mr.high) rr.high)) ∧ W.cell? ⟨bm, 0, none⟩ = some (.string em.key) ∧ W.cell? ⟨bm, 1, none⟩ = some (.string em.key) ∧ W.cell? ⟨bm, 2, none⟩ = some (.string em.val) ∧ W.cell? ⟨bm, 3, none⟩ = some (.int .i64 em.made) ∧ W.cell? ⟨bm, 4, none⟩ = some (.int .i64 em.mod) ∧ W.cell? ⟨bm, 5, none⟩ = some (.pointer ml.adr) ∧ W.cell? ⟨bm, 6, none⟩ = some (.pointer mr.adr) ∧ W.cell? ⟨bm, 7, none⟩ = some (.int .i64 (1 + max ml.high mr.high))) (by kernel_rfl) (hSB.out _ hB4.out) (fun hHeld => ?_)
  refine wTake 0 ?_
  refine wTake 1 ?_
  refine wTake 2 ?_
  try simp only [Act.put, List.setIfInBounds_toArray, List.set_cons_zero, List.set_cons_succ]
  try simp only [decide_eq_true h2]
  refine wTake 3 ?_
  try simp only [Act.put, List.setIfInBounds_toArray, List.set_cons_zero, List.set_cons_succ]
  refine wTake 4 ?_
  try simp only [Act.put, List.setIfInBounds_toArray, List.set_cons_zero, List.set_cons_succ]
  refine wTake 5 ?_
  try simp only [Act.put, List.setIfInBounds_toArray, List.set_cons_zero, List.set_cons_succ]
  refine wTake 6 ?_
  try simp only [Act.put, List.setIfInBounds_toArray, List.set_cons_zero, List.set_cons_succ]
  refine wTake 8 ?_
  try simp only [Act.put, List.setIfInBounds_toArray, List.set_cons_zero, List.set_cons_succ]
  refine wTake 9 ?_
  try simp only [Act.put, List.setIfInBounds_toArray, List.set_cons_zero, List.set_cons_succ]
  refine wTake 10 ?_
  try simp only [Act.put, List.setIfInBounds_toArray, List.set_cons_zero, List.set_cons_succ]
  refine wTake 11 ?_
  try simp only [Act.put, List.setIfInBounds_toArray, List.set_cons_zero, List.set_cons_succ]
  refine wpAnyH_ready (rs := [7]) (by kernel_rfl) (by simp) (AllReadyH.cons rfl (fun K hK => ?_) AllReadyH.nil)
  go_simp
  refine (height_any rr _ (AT.In.below hB4.out hrr)).mono ?_
  rintro z x5 ⟨rfl, hb⟩
  have hB5 := Lib.hid (below_next0 hB4.out hb)
  clear hb
  go_wp2_with fail
  refine hK.out _ _ (hSB.out _ hB5.out) (fun hHeld => ?_)
  clear hK K
  try simp only [Act.put, List.setIfInBounds_toArray, List.set_cons_zero, List.set_cons_succ]
  refine wpAnyH_ready (rs := [12]) (by kernel_rfl) (by simp) (AllReadyH.cons rfl (fun K hK => ?_) AllReadyH.nil)
  go_simp
  refine (height_any (AT.node bm em ml mr (1 + max ml.high mr.high)) _ (show (AT.node bm em ml mr (1 + max ml.high mr.high)).In _ from ⟨((hB5.out.block _ (blk_lt hbm)).trans hbm), (AT.In.below hB5.out hml), (AT.In.below hB5.out hmr)⟩)).mono ?_
  rintro z x6 ⟨rfl, hb⟩
  have hB6 := Lib.hid (below_next0 hB5.out hb)
  clear hb
  go_wp2_with fail
  refine hK.out _ _ (hSB.out _ hB6.out) (fun hHeld => ?_)
  clear hK K
  try simp only [Act.put, List.setIfInBounds_toArray, List.set_cons_zero, List.set_cons_succ]
  refine wTake 13 ?_
  refine wTake 14 ?_
  refine wTake 15 ?_
  try simp only [Act.put, List.setIfInBounds_toArray, List.set_cons_zero, List.set_cons_succ]
  refine wpAnyH_done (by kernel_rfl) ?_ _
  refine NoPanic.normal ?_
  clear hHeld
  have hHeld := hSB.out _ hB6.out
  go_wp2_with fail
  have hB7 := Lib.hid (show Below w.heap.size w x6.drew from below_drew hB6.out)
  refine wp_region_noPanic ?_
  refine wp_region_held_drew (S := fun W => W.cell? ⟨b, 0, none⟩ = some (.string e.key) ∧ W.cell? ⟨b, 1, none⟩ = some (.string e.key) ∧ W.cell? ⟨b, 2, none⟩ = some (.string e.val) ∧ W.cell? ⟨b, 3, none⟩ = some (.int .i64 e.made) ∧ W.cell? ⟨b, 4, none⟩ = some (.int .i64 e.mod) ∧ W.cell? ⟨b, 5, none⟩ = some (.pointer l0) ∧ W.cell? ⟨b, 6, none⟩ = some (.pointer r0) ∧ W.cell? ⟨b, 7, none⟩ = some (.int .i64 h0) ∧ W.cell? ⟨br, 0, none⟩ = some (.string er.key) ∧ W.cell? ⟨br, 1, none⟩ = some (.string er.key) ∧ W.cell? ⟨br, 2, none⟩ = some (.string er.val) ∧ W.cell? ⟨br, 3, none⟩ = some (.int .i64 er.made) ∧ W.cell? ⟨br, 4, none⟩ = some (.int .i64 er.mod) ∧ W.cell? ⟨br, 5, none⟩ = some (.pointer (some ⟨bm, 0, none⟩)) ∧ W.cell? ⟨br, 6, none⟩ = some (.pointer rr.adr) ∧ W.cell? ⟨br, 7, none⟩ = some (.int .i64 (1 + max (1 + max ml.high mr.high) rr.high)) ∧ W.cell? ⟨bm, 0, none⟩ = some (.string em.key) ∧ W.cell? ⟨bm, 1, none⟩ = some (.string em.key) ∧ W.cell? ⟨bm, 2, none⟩ = some (.string em.val) ∧ W.cell? ⟨bm, 3, none⟩ = some (.int .i64 em.made) ∧ W.cell? ⟨bm, 4, none⟩ = some (.int .i64 em.mod) ∧ W.cell? ⟨bm, 5, none⟩ = some (.pointer ml.adr) ∧ W.cell? ⟨bm, 6, none⟩ = some (.pointer mr.adr) ∧ W.cell? ⟨bm, 7, none⟩ = some (.int .i64 (1 + max ml.high mr.high))) (by kernel_rfl) (hSB.out _ hB7.out) (fun hHeld => ?_)
  refine wTake 0 ?_
  refine wTake 1 ?_
  refine wTake 2 ?_
  refine wTake 3 ?_
  refine wTake 4 ?_
  refine wTake 5 ?_
  refine wTake 6 ?_
  refine wTake 8 ?_
  refine wTake 9 ?_
  refine wTake 10 ?_
  refine wTake 11 ?_
  refine wTake 12 ?_
  refine wTake 13 ?_
  refine wTake 14 ?_
  refine wTake 15 ?_
  refine wTake 16 ?_
  try simp only [Act.put, List.setIfInBounds_toArray, List.set_cons_zero, List.set_cons_succ]
  refine wpAnyH_ready (rs := [7]) (by kernel_rfl) (by simp) (AllReadyH.cons rfl (fun K hK => ?_) AllReadyH.nil)
  go_simp
  refine (with_any b e l0 r0 h0 l ml _ ((hB7.out.block _ (blk_lt hs)).trans hs) (AT.In.below hB7.out hl) (AT.In.below hB7.out hml) (by omega) (by omega)).mono ?_
  rintro z x8 ⟨g1, rfl, hg, hb⟩
  have hB8 := Lib.hid (below_next0 hB7.out hb)
  have Hg1_8 := Lib.hid hg
  clear hb hg
  go_wp2_with fail
  refine hK.out _ _ (hSB.out _ hB8.out) (fun hHeld => ?_)
  clear hK K
  try simp only [Act.put, List.setIfInBounds_toArray, List.set_cons_zero, List.set_cons_succ]
  refine wpAnyH_ready (rs := [17]) (by kernel_rfl) (by simp) (AllReadyH.cons rfl (fun K hK => ?_) AllReadyH.nil)
  go_simp
  refine (with_any br er (some ⟨bm, 0, none⟩) rr.adr (1 + max (1 + max ml.high mr.high) rr.high) mr rr _ ((hB8.out.block _ (blk_lt hbr)).trans hbr) (AT.In.below hB8.out hmr) (AT.In.below hB8.out hrr) (by omega) (by omega)).mono ?_
  rintro z x9 ⟨g2, rfl, hg, hb⟩
  have hB9 := Lib.hid (below_next0 hB8.out hb)
  have Hg1_9 := Lib.hid ((hb.block _ (blk_lt Hg1_8.out)).trans Hg1_8.out)
  have Hg2_9 := Lib.hid hg
  clear hb hg
  go_wp2_with fail
  refine hK.out _ _ (hSB.out _ hB9.out) (fun hHeld => ?_)
  clear hK K
  try simp only [Act.put, List.setIfInBounds_toArray, List.set_cons_zero, List.set_cons_succ]
  refine wpAnyH_ready (rs := [18]) (by kernel_rfl) (by simp) (AllReadyH.cons rfl (fun K hK => ?_) AllReadyH.nil)
  go_simp
  refine (with_any bm em ml.adr mr.adr (1 + max ml.high mr.high) (AT.node g1 e l ml (1 + max l.high ml.high)) (AT.node g2 er mr rr (1 + max mr.high rr.high)) _ ((hB9.out.block _ (blk_lt hbm)).trans hbm) ⟨Hg1_9.out, (AT.In.below hB9.out hl), (AT.In.below hB9.out hml)⟩ ⟨Hg2_9.out, (AT.In.below hB9.out hmr), (AT.In.below hB9.out hrr)⟩ (by simp only [AT.high_node]; omega) (by simp only [AT.high_node]; omega)).mono ?_
  rintro z x10 ⟨g3, rfl, hg, hb⟩
  have hB10 := Lib.hid (below_next0 hB9.out hb)
  have Hg1_10 := Lib.hid ((hb.block _ (blk_lt Hg1_9.out)).trans Hg1_9.out)
  have Hg2_10 := Lib.hid ((hb.block _ (blk_lt Hg2_9.out)).trans Hg2_9.out)
  have Hg3_10 := Lib.hid hg
  clear hb hg
  go_wp2_with fail
  refine hK.out _ _ (hSB.out _ hB10.out) (fun hHeld => ?_)
  clear hK K
  try simp only [Act.put, List.setIfInBounds_toArray, List.set_cons_zero, List.set_cons_succ]
  refine wTake 19 ?_
  try simp only [Act.put, List.setIfInBounds_toArray, List.set_cons_zero, List.set_cons_succ]
  refine wpAnyH_done (by kernel_rfl) ?_ _
  refine NoPanic.normal ?_
  clear hHeld
  go_wp2
  go_ret
  exact ⟨AT.node g3 em (AT.node g1 e l ml (1 + max l.high ml.high)) (AT.node g2 er mr rr (1 + max mr.high rr.high)) (1 + max (1 + max l.high ml.high) (1 + max mr.high rr.high)), rfl, ⟨Hg3_10.out, ⟨Hg1_10.out, (AT.In.below hB10.out hl), (AT.In.below hB10.out hml)⟩, ⟨Hg2_10.out, (AT.In.below hB10.out hmr), (AT.In.below hB10.out hrr)⟩⟩, ⟨rfl, ⟨rfl, tl, tml⟩, ⟨rfl, tmr, trr⟩⟩, by simp [AT.row], hB10.out⟩
theorem level_any (b : Nat) (e : Ent) (l0 r0 : Option Addr) (h0 : Int) (l r : AT) (w : World) (hs : w.heap[b]? = some (.cells #[.string e.key, .string e.key, .string e.val, .int .i64 e.made, .int .i64 e.mod, .pointer l0, .pointer r0, .int .i64 h0] 218 (0, 0))) (hl : l.In w) (hr : r.In w) (tl : l.Tall) (tr : r.Tall) (hn : l.row.length + r.row.length ≤ 800000000) :
    Calls Try.prog 178 #[.pointer (some ⟨b, 0, none⟩), .pointer l.adr, .pointer r.adr] w fun x w' => ∃ t : AT, x = .returned (.pointer t.adr) ∧ t.In w' ∧ t.Tall ∧ t.row = l.row ++ e :: r.row ∧ Below w.heap.size w w' := by
  have q1 := AT.tall_bd tl
  have q2 := AT.tall_bd tr
  by_cases h1 : 1 < l.high - r.high
  · obtain ⟨bl, el, ll, lr, rfl, tll, tlr⟩ := AT.tall_node tl (by omega)
    obtain ⟨hbl, hll, hlr⟩ := hl
    simp only [AT.high_node, AT.row, List.length_append, List.length_cons] at h1 hn ⊢
    by_cases hc : lr.high ≤ ll.high
    · exact level_a1 b e l0 r0 h0 bl el ll lr r w hs hbl hll hlr hr tll tlr tr (by omega) h1 hc
    · have q3 := AT.tall_bd tll
      obtain ⟨bm, em, ml, mr, rfl, tml, tmr⟩ := AT.tall_node tlr (by omega)
      obtain ⟨hbm, hml, hmr⟩ := hlr
      simp only [AT.high_node, AT.row, List.length_append, List.length_cons] at h1 hn hc ⊢
      exact level_a2 b e l0 r0 h0 bl el ll bm em ml mr r w hs hbl hll hbm hml hmr hr tll tml tmr tr (by omega) h1 hc
  · by_cases h2 : l.high - r.high < -1
    · obtain ⟨br, er, rl, rr, rfl, trl, trr⟩ := AT.tall_node tr (by omega)
      obtain ⟨hbr, hrl, hrr⟩ := hr
      simp only [AT.high_node, AT.row, List.length_append, List.length_cons] at h2 hn ⊢
      by_cases hc : rl.high ≤ rr.high
      · exact level_b1 b e l0 r0 h0 l br er rl rr w hs hbr hrr hrl hl trr trl tl (by omega) h2 hc
      · have q3 := AT.tall_bd trr
        obtain ⟨bm, em, ml, mr, rfl, tml, tmr⟩ := AT.tall_node trl (by omega)
        obtain ⟨hbm, hml, hmr⟩ := hrl
        simp only [AT.high_node, AT.row, List.length_append, List.length_cons] at h2 hn hc ⊢
        exact level_b2 b e l0 r0 h0 l br er bm em ml mr rr w hs hbr hrr hbm hml hmr hl trr tml tmr tl (by omega) h2 hc
    · exact level_c b e l0 r0 h0 l r w hs hl hr tl tr (by omega) h1 h2
end Go.Proofs.Ytobanhbjkomieaa.TA
