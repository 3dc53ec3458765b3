import Derived.Test.YtobanhbjkomieaaTMSb
import Derived.Test.YtobanhbjkomieaaTJSb
import Derived.RangeFuncNested
import Derived.RangeFuncCalls
import Derived.Maps.AppendAt
import Derived.Test.YtobanhbjkomieaaPAllx2Sb
section
namespace Go.Proofs.Ytobanhbjkomieaa.TA
open Go Go.RowKit Go.Shelf Go.Proofs Go.Proofs.Ytobanhbjkomieaa.KP Go.Proofs.YtobanhbjkomieaaW.PrintWords Go.Proofs.YtobanhbjkomieaaW.PrintLast Go.Proofs.YtobanhbjkomieaaW.PrintMore
open Go.Proofs.Ytobanhbjkomieaa.RP (wTake wSkip wOne wpAnyH_cast below_next0)
set_option linter.unusedSimpArgs false
set_option linter.unusedVariables false
attribute [local go_sem] Oper.semAt_some
theorem infoEnt : (Try.prog.info? 62).map (fun i => (i.zero, i.size, i.bytes)) = some (some (.agg #[.string ⟨#[]⟩, .string ⟨#[]⟩, .int .i64 0, .int .i64 0]), 4, 48) := by kernel_rfl
theorem pref_begins (x : Ent) (p : ByteArray) : beginsK x.key.data.toList p.data.toList = pref p x := rfl
theorem entCells_one {l : List Ent} : ∀ u ∈ l.flatMap entCells, u.oneCell' = true := by
  intro u hu
  obtain ⟨x, _, hx⟩ := List.mem_flatMap.1 hu
  simp only [entCells, List.mem_cons, List.not_mem_nil, or_false] at hx
  rcases hx with rfl | rfl | rfl | rfl <;> rfl
theorem BoxedE.alloc {W : World} {b : Nat} {cs : Array Value} {T : TypeId} (h : W.heap[b]? = some (.cells cs T (0, 0))) (o : Obj) : (W.alloc o).heap[b]? = some (.cells cs T (0, 0)) := (Below.heap_alloc W o b (blk_lt h)).trans h
theorem heldU {G : Prop} (h : Unit → G) : G := h ()
theorem keeps_below {W W1 : World} (h : Below W.heap.size W W1) : KeepsOthers W W1 := ⟨h.size, fun k o hk _ => (h.block k (Array.getElem?_eq_some_iff.1 hk).1).trans hk⟩
set_option maxRecDepth 100000 in
set_option maxHeartbeats 10000000 in
theorem list_any (tb : Nat) (t : AT) (m : Md) (ad : Option Addr) (c : Nat) (w : World) (hT : At w tb t m ad c) (p : ByteArray) (hl : m.row.length ≤ 1000000000) :
    Calls Try.prog 42 #[.pointer (some ⟨tb, 0, none⟩), .string p] w fun e w' => ∃ V, e = .returned V ∧ kEnt.R 62 w' w.heap.size (fun _ => True) V (listL p m.row) ∧ Below w.heap.size w w' := by
  have hS := hT.srt
  have hfr := AT.from_eq p hS
  have hlist : listL p m.row = (t.from_ p).takeWhile (pref p) := by rw [hfr, list_while hS, hT.row]
  have hN : (t.from_ p).length ≤ 1000000000 := by
    have := List.length_filter_le (fun x => !lt x.key p) t.row
    rw [hfr]
    rw [hT.row] at this ⊢
    omega
  rw [hlist]
  have z : w.cell? ⟨tb, 0, none⟩ = some (.pointer t.adr) := (blk_cell hT.blk 0).trans rfl
  have lz := blk_lt hT.blk
  have IT := Lib.hid hT.ins
  clear hlist hfr hS hT hl
  obtain ⟨i0, hi, hz0, hz1, hz2⟩ := info_parts infoEnt
  refine (callsIn_wide (n := 9)).1 ?_
  refine callsIn_of_wp_marks Try.func42 rfl trivial ?_ rfl
  simp only [Try.ntmps42, List.size_toArray, List.length_cons, List.length_nil, Nat.reduceAdd, Nat.reduceSub, Array.replicate_succ, Array.replicate_zero, List.push_toArray, List.append_toArray, List.nil_append, List.cons_append]
  gi_wp2
  obtain ⟨X1, hX1⟩ : ∃ X1, (w.alloc (.cells #[.string p] 9)).alloc (.cells #[.slice none 0 0] 52) = X1 := ⟨_, rfl⟩
  have bP : Boxed X1 w.heap.size 9 (.string p) := hX1 ▸ (Boxed.new w 9 (.string p)).alloc _
  have bO : Boxed X1 (w.heap.size + 1) 52 (.slice none 0 0) := by
    have := Boxed.new (w.alloc (.cells #[.string p] 9)) 52 (.slice none 0 0)
    rw [World.size_alloc] at this
    exact hX1 ▸ this
  have hB1 : Below w.heap.size w X1 := hX1 ▸ ((Below.refl _ w).alloc (Nat.le_refl _) _).alloc (by simp) _
  have hs1 : X1.heap.size = w.heap.size + 2 := by rw [← hX1]; simp
  rw [hX1]
  clear hX1
  have zX : X1.drew.cell? ⟨tb, 0, none⟩ = some (.pointer t.adr) := (hB1.cell (p := ⟨tb, 0, none⟩) lz).trans z
  have zP : X1.drew.cell? ⟨w.heap.size, 0, none⟩ = some (.string p) := bP.cell
  refine wpIn_region_any (by kernel_rfl) ?_
  try (change wpAnyIn _ _ _ _ _ _ _ _ _ (World.drew _))
  apply cut0
  · intro REST
    have RE := Lib.hid REST
    clear REST
    refine wpAnyIn_ready (rs := [0, 4]) (by kernel_rfl) (by simp) (AllReadyIn.cons rfl (fun K hK => ?_) (AllReadyIn.cons rfl (fun K hK => ?_) AllReadyIn.nil))
    · go_simp
      refine hK _ _ ?_
      clear hK K
      try simp only [Act.put, List.setIfInBounds_toArray, List.set_cons_zero, List.set_cons_succ]
      refine wpAnyIn_ready (rs := [1, 4]) (by kernel_rfl) (by simp) (AllReadyIn.cons rfl (fun K hK => ?_) (AllReadyIn.cons rfl (fun K hK => ?_) AllReadyIn.nil))
      · go_simp
        refine hK _ _ ?_
        clear hK K
        try simp only [Act.put, List.setIfInBounds_toArray, List.set_cons_zero, List.set_cons_succ]
        refine wpAnyIn_ready (rs := [2, 4]) (by kernel_rfl) (by simp) (AllReadyIn.cons rfl (fun K hK => ?_) (AllReadyIn.cons rfl (fun K hK => ?_) AllReadyIn.nil))
        · go_simp
          refine hK _ _ ?_
          clear hK K
          try simp only [Act.put, List.setIfInBounds_toArray, List.set_cons_zero, List.set_cons_succ]
          refine wpAnyIn_ready (rs := [3, 4]) (by kernel_rfl) (by simp) (AllReadyIn.cons rfl (fun K hK => ?_) (AllReadyIn.cons rfl (fun K hK => ?_) AllReadyIn.nil))
          · go_simp
            refine hK _ _ ?_
            clear hK K
            try simp only [Act.put, List.setIfInBounds_toArray, List.set_cons_zero, List.set_cons_succ]
            refine wpAnyIn_ready (rs := [4]) (by kernel_rfl) (by simp) (AllReadyIn.cons rfl (fun K hK => ?_) AllReadyIn.nil)
            go_simp
            refine hK _ _ ?_
            clear hK K
            try simp only [Act.put, List.setIfInBounds_toArray, List.set_cons_zero, List.set_cons_succ]
            refine wpAnyIn_cast (l' := #[true, true, true, true, true, false]) (by kernel_rfl) ?_
            exact RE.out
          · go_simp
            refine hK _ _ ?_
            clear hK K
            try simp only [Act.put, List.setIfInBounds_toArray, List.set_cons_zero, List.set_cons_succ]
            refine wpAnyIn_ready (rs := [3]) (by kernel_rfl) (by simp) (AllReadyIn.cons rfl (fun K hK => ?_) AllReadyIn.nil)
            go_simp
            refine hK _ _ ?_
            clear hK K
            try simp only [Act.put, List.setIfInBounds_toArray, List.set_cons_zero, List.set_cons_succ]
            refine wpAnyIn_cast (l' := #[true, true, true, true, true, false]) (by kernel_rfl) ?_
            exact RE.out
        · go_simp
          refine hK _ _ ?_
          clear hK K
          try simp only [Act.put, List.setIfInBounds_toArray, List.set_cons_zero, List.set_cons_succ]
          refine wpAnyIn_ready (rs := [2]) (by kernel_rfl) (by simp) (AllReadyIn.cons rfl (fun K hK => ?_) AllReadyIn.nil)
          go_simp
          refine hK _ _ ?_
          clear hK K
          try simp only [Act.put, List.setIfInBounds_toArray, List.set_cons_zero, List.set_cons_succ]
          refine wpAnyIn_ready (rs := [3]) (by kernel_rfl) (by simp) (AllReadyIn.cons rfl (fun K hK => ?_) AllReadyIn.nil)
          go_simp
          refine hK _ _ ?_
          clear hK K
          try simp only [Act.put, List.setIfInBounds_toArray, List.set_cons_zero, List.set_cons_succ]
          refine wpAnyIn_cast (l' := #[true, true, true, true, true, false]) (by kernel_rfl) ?_
          exact RE.out
      · go_simp
        refine hK _ _ ?_
        clear hK K
        try simp only [Act.put, List.setIfInBounds_toArray, List.set_cons_zero, List.set_cons_succ]
        refine wpAnyIn_ready (rs := [1]) (by kernel_rfl) (by simp) (AllReadyIn.cons rfl (fun K hK => ?_) AllReadyIn.nil)
        go_simp
        refine hK _ _ ?_
        clear hK K
        try simp only [Act.put, List.setIfInBounds_toArray, List.set_cons_zero, List.set_cons_succ]
        refine wpAnyIn_ready (rs := [2]) (by kernel_rfl) (by simp) (AllReadyIn.cons rfl (fun K hK => ?_) AllReadyIn.nil)
        go_simp
        refine hK _ _ ?_
        clear hK K
        try simp only [Act.put, List.setIfInBounds_toArray, List.set_cons_zero, List.set_cons_succ]
        refine wpAnyIn_ready (rs := [3]) (by kernel_rfl) (by simp) (AllReadyIn.cons rfl (fun K hK => ?_) AllReadyIn.nil)
        go_simp
        refine hK _ _ ?_
        clear hK K
        try simp only [Act.put, List.setIfInBounds_toArray, List.set_cons_zero, List.set_cons_succ]
        refine wpAnyIn_cast (l' := #[true, true, true, true, true, false]) (by kernel_rfl) ?_
        exact RE.out
    · go_simp
      refine hK _ _ ?_
      clear hK K
      try simp only [Act.put, List.setIfInBounds_toArray, List.set_cons_zero, List.set_cons_succ]
      refine wpAnyIn_ready (rs := [0]) (by kernel_rfl) (by simp) (AllReadyIn.cons rfl (fun K hK => ?_) AllReadyIn.nil)
      go_simp
      refine hK _ _ ?_
      clear hK K
      try simp only [Act.put, List.setIfInBounds_toArray, List.set_cons_zero, List.set_cons_succ]
      refine wpAnyIn_ready (rs := [1]) (by kernel_rfl) (by simp) (AllReadyIn.cons rfl (fun K hK => ?_) AllReadyIn.nil)
      go_simp
      refine hK _ _ ?_
      clear hK K
      try simp only [Act.put, List.setIfInBounds_toArray, List.set_cons_zero, List.set_cons_succ]
      refine wpAnyIn_ready (rs := [2]) (by kernel_rfl) (by simp) (AllReadyIn.cons rfl (fun K hK => ?_) AllReadyIn.nil)
      go_simp
      refine hK _ _ ?_
      clear hK K
      try simp only [Act.put, List.setIfInBounds_toArray, List.set_cons_zero, List.set_cons_succ]
      refine wpAnyIn_ready (rs := [3]) (by kernel_rfl) (by simp) (AllReadyIn.cons rfl (fun K hK => ?_) AllReadyIn.nil)
      go_simp
      refine hK _ _ ?_
      clear hK K
      try simp only [Act.put, List.setIfInBounds_toArray, List.set_cons_zero, List.set_cons_succ]
      refine wpAnyIn_cast (l' := #[true, true, true, true, true, false]) (by kernel_rfl) ?_
      exact RE.out
  refine iOne 5 (fun K hK => ?_)
  go_simp
  gi_wp2_with ((try refine ⟨trivial, ?_⟩); gi_at_call 116; refine (callsIn_wide.2 (from_in t p _)).mono ?_; rintro e W1 ⟨rfl, rfl⟩)
  refine wpAnyIn_done (by kernel_rfl) ?_ _
  show Exit.then _ _ _ _ _
  obtain ⟨W0, hW0⟩ : ∃ W0, ((X1.alloc (.cells #[.pointer t.adr] 164)).alloc (.cells #[.string p] 9)).drew = W0 := ⟨_, rfl⟩
  have bP0 : Boxed W0 w.heap.size 9 (.string p) := hW0 ▸ (show Boxed (World.drew _) _ _ _ from (bP.alloc _).alloc _)
  have bO0 : Boxed W0 (w.heap.size + 1) 52 (.slice none 0 0) := hW0 ▸ (show Boxed (World.drew _) _ _ _ from (bO.alloc _).alloc _)
  have bT0 : Boxed W0 (w.heap.size + 2) 164 (.pointer t.adr) := by
    have := (Boxed.new X1 164 (.pointer t.adr)).alloc (.cells #[.string p] 9)
    rw [hs1] at this
    exact hW0 ▸ (show Boxed (World.drew _) _ _ _ from this)
  have bK0 : Boxed W0 (w.heap.size + 2 + 1) 9 (.string p) := by
    have := Boxed.new (X1.alloc (.cells #[.pointer t.adr] 164)) 9 (.string p)
    rw [World.size_alloc, hs1] at this
    exact hW0 ▸ (show Boxed (World.drew _) _ _ _ from this)
  have hB0 : Below w.heap.size w W0 := hW0 ▸ below_drew ((hB1.alloc (by omega) _).alloc (by rw [World.size_alloc]; omega) _)
  have hs0 : W0.heap.size = w.heap.size + 4 := by rw [← hW0]; show ((X1.alloc _).alloc _).heap.size = _; simp [hs1]
  rw [hW0]
  clear hW0 zX zP bP bO hB1 hs1
  gi_wp2
  refine wpIn_rangeFunc_ownH rfl (by decide) (gf := 171) (lb := #[.pointer (some ⟨w.heap.size + 2, 0, none⟩), .pointer (some ⟨w.heap.size + 2 + 1, 0, none⟩)]) rfl trivial (enters_of Try.func171 (by kernel_rfl) rfl)
    (from_stops Fence.wide rfl _ trivial trivial rfl (w.heap.size + 2) (w.heap.size + 2 + 1) w t p W0 (by omega) (by omega) (by omega) IT.out hB0 bT0.cell bK0.cell) belowK_t (belowK_b (by omega)) (Below.refl _ _) (fun _ => rfl)
    (fun (pre : List Ent) W => ((∃ v, Boxed W (w.heap.size + 1) 52 v ∧ W.ownsRow w.heap.size 62 4 v pre.length (pre.flatMap entCells) ∧ ∀ x ∈ pre, pref p x = true) ∧ Boxed W w.heap.size 9 (.string p)) ∧ Below w.heap.size w W)
    (fun c (pre : List Ent) W => ((∃ v, Boxed W (w.heap.size + 1) 52 v ∧ W.ownsRow w.heap.size 62 4 v pre.dropLast.length (pre.dropLast.flatMap entCells) ∧ (c = .exit 0 ∧ (∀ x ∈ pre.dropLast, pref p x = true) ∧ ∃ q x, pre = q ++ [x] ∧ pref p x = false))) ∧ Below w.heap.size w W)
    (OwnFrom.and (OwnFrom.and (Own.from (holdsRow_own w.heap.size (w.heap.size + 1) 52 62 4 (fun pre : List Ent => pre.length) (fun pre : List Ent => pre.flatMap entCells) (fun (pre : List Ent) v => ∀ x ∈ pre, pref p x = true)) _) (Own.from (boxed_own _ _ _) _)) (ownFrom_below (Nat.le_refl _) (by omega)))
    (fun c => OwnFrom.and (Own.from (holdsRow_own w.heap.size (w.heap.size + 1) 52 62 4 (fun pre : List Ent => pre.dropLast.length) (fun pre : List Ent => pre.dropLast.flatMap entCells) (fun (pre : List Ent) v => (c = .exit 0 ∧ (∀ x ∈ pre.dropLast, pref p x = true) ∧ ∃ q x, pre = q ++ [x] ∧ pref p x = false))) _) (ownFrom_below (Nat.le_refl _) (by omega)))
    ⟨⟨⟨_, bO0, World.ownsRow_nil _ _ _ _, by simp⟩, bP0⟩, hB0⟩
    (fun x a' W => ∃ Bx, w.heap.size + 1 < Bx ∧ Bx < W.heap.size ∧ W.heap[Bx]? = some (.cells #[.string x.key, .string x.val, .int .i64 x.made, .int .i64 x.mod] 62 (0, 0)) ∧ a' = { tmps := #[Value.pointer (some { block := tb, off := 0 }), Value.string p, undef, Value.pointer (some { block := w.heap.size, off := 0 }), Value.slice none 0 0, Value.pointer (some { block := w.heap.size + 1, off := 0 }), .string x.key, .pointer (some ⟨Bx, 0, none⟩), Value.pointer (some { block := tb, off := 0 }), Value.bool false, Value.pointer (some { block := tb, off := 0 }), Value.pointer (some { block := tb, off := 0 }), Value.pointer (some { block := tb, off := 0 }), Value.pointer t.adr, Value.string p, Value.func (Fn.func 171) #[] #[Value.pointer (some { block := w.heap.size + 2, off := 0 }), Value.pointer (some { block := w.heap.size + 2 + 1, off := 0 })], .string x.key, entV x, undef, undef, undef, undef, undef, undef, undef, undef, undef], defers := [] })
    (fun x a' _ X Y row hs hg hr => by
      obtain ⟨Bx, e1, e2, e3, e4⟩ := hs
      refine ⟨Bx, e1, Nat.lt_of_lt_of_le e2 hg.size, (hg.block Bx e2 (fun e => ?_)).trans e3, e4⟩
      obtain ⟨_, o, ho, hc⟩ := hr Bx e.symm
      rw [e3] at ho
      cases ho
      cases hc)
    ?assign ?body ?done ?stop
  case assign =>
    rintro l pre x W K ⟨⟨⟨v, hv, hrow, hpre⟩, hbP⟩, hB⟩ hK
    gi_wp2
    exact hK _ _ ((KeepsOthers.alloc _ _).from _) ((Below.refl _ W).alloc hB.size _) ⟨⟨⟨v, hv.alloc _, hrow.alloc _, hpre⟩, hbP.alloc _⟩, hB.alloc hB.size _⟩ ⟨W.heap.size, hv.lt, by simp, heap_alloc_new W _, rfl⟩
  case body =>
    rintro l pre x a' W hl ⟨r, hr⟩ ⟨⟨⟨v, hv, hrow, hpre⟩, hbP⟩, hB⟩ ⟨Bx, hBx, hBl, hX, rfl⟩ hlt
    have hc := hv.cell
    have cP := hbP.cell
    have cX0 := blk_cell hX 0
    have cX1 := blk_cell hX 1
    have cX2 := blk_cell hX 2
    have cX3 := blk_cell hX 3
    simp only [List.getElem?_toArray, List.getElem?_cons_zero, List.getElem?_cons_succ] at cX0 cX1 cX2 cX3
    gi_wp2_with first
      | (refine ⟨trivial, ?_⟩; gi_at_call 117; refine (CallsIn.inRound l (callsIn_wide.2 (keysBegins_any x.key p _))).mono ?_; rintro e W1 ⟨rfl, hd⟩; have hb1 := hd.below; have hk1 := keeps_below hb1; have hX1 := (hb1.block _ hBl).trans hX; have hv1 : Boxed W1 _ _ _ := (hb1.block _ hv.lt).trans hv; have hbP1 : Boxed W1 _ _ _ := (hb1.block _ hbP.lt).trans hbP; have hrow1 := own_move hrow (fun k hk => hb1.block k (hrow.lt k hk).2); have hB1 := hB.trans (hb1.mono hB.size); have hc1 := hv1.cell; have cX0 := blk_cell hX1 0; have cX1 := blk_cell hX1 1; have cX2 := blk_cell hX1 2; have cX3 := blk_cell hX1 3; simp only [List.getElem?_toArray, List.getElem?_cons_zero, List.getElem?_cons_succ] at cX0 cX1 cX2 cX3; rw [pref_begins]; cases hp : pref p x)
      | (gi_at_builtin; refine heldU ?_)
    · exact ⟨hk1.from _, ⟨v, hv1, by simpa using hrow1, rfl, by simpa using hpre, pre, x, rfl, hp⟩, hB1⟩
    · intro _
      refine wpListIn_append_own _ rfl _ _ 52 rfl w.heap.size 62 i0 _ 4 48 Try.underlying52 hi hz0 hz1 hz2 rfl (by decide) _ _ _ rfl (hrow1.alloc _) ⟨W1.heap.size, 0, none⟩ 1 1 (entCells x) rfl rfl ?_ ?_ ?_ ?_ ?_ ?_
      · exact World.news_of_block (cs := (entCells x).toArray) (t := 62) (fr := (0, 0)) (heap_alloc_new W1 (.cells (entCells x).toArray 62))
      · have := entCells_one (l := [x])
        simpa using this
      · simp only [maxLen]; omega
      · omega
      · have := hB1.size; simp; omega
      intro v' w1 hown' hgrow _
      obtain ⟨g', cap', rfl⟩ := ownsRow_succ hown'
      obtain ⟨hv1', hv2, hr2, hk2, hb2⟩ := hv1.appended (by decide) hrow1 hB1.size (by omega) hown' hgrow
      have hc1' := hv1'.cell
      have hf1' := hv1'.frozen
      gi_wp2
      exact ⟨(hk1.trans hk2).from _, (hb1.mono hB.size).trans hb2, ⟨⟨⟨_, hv2, by simpa using hr2, fun y hy => (List.mem_append.1 hy).elim (hpre y) (fun e => by simp at e; subst e; exact hp)⟩, Boxed.other ((hbP1.alloc _).kept hgrow (hbP1.not_row (by decide) hrow1)) (by omega) _⟩, hB1.trans hb2⟩⟩
  case done =>
    rintro D ys W hD rfl ⟨⟨⟨v, hv, hrow, hpre⟩, hbP⟩, hB⟩ hK
    have hc := hv.cell
    gi_wp2
    refine ⟨by simp, .inl ⟨_, _, rfl, run_takeDeferred hK, ?_⟩⟩
    rw [while_all hpre]
    exact ⟨_, results_tmp rfl _ _ _, v, rfl, R_flat (ownsRow_putObj hrow _ hK rfl) (fun _ _ => trivial), hB.trans (belowK_b (w := w) (Nat.le_refl _) W D _ _ (by omega) hK rfl rfl)⟩
  case stop =>
    rintro D c pre W hD hpre ⟨⟨v, hv, hrow, rfl, hq, hx⟩, hB⟩ hK
    have hc := hv.cell
    gi_wp2
    refine ⟨by simp, .inl ⟨_, _, rfl, run_takeDeferred hK, ?_⟩⟩
    obtain ⟨q, x, rfl, hx⟩ := hx
    obtain ⟨r, hr⟩ := hpre
    rw [List.dropLast_concat] at hrow hq
    have hw : (t.from_ p).takeWhile (pref p) = q := by rw [← hr, List.append_assoc]; exact while_stop hq hx
    rw [hw]
    exact ⟨_, results_tmp rfl _ _ _, v, rfl, R_flat (ownsRow_putObj hrow _ hK rfl) (fun _ _ => trivial), hB.trans (belowK_b (w := w) (Nat.le_refl _) W D _ _ (by omega) hK rfl rfl)⟩
end Go.Proofs.Ytobanhbjkomieaa.TA
end
section
namespace Go.Proofs.Ytobanhbjkomieaa.EQ
open Go.RowKit Go.Proofs.YtobanhbjkomieaaW.PrintWords
set_option linter.unusedSimpArgs false
set_option linter.unusedVariables false
theorem eqA23 (d : Nat) (w : World) (x0 y0 : ByteArray) (x1 y1 : Int) (x2 y2 : Int) (x3 y3 : Bool) :
  (Op.equalIn (d + 2) 23 (.agg #[.string x0, .int .i64 x1, .int .i64 x2, .bool x3]) (.agg #[.string y0, .int .i64 y1, .int .i64 y2, .bool y3])).run Try.prog w = .ok (x0.toList == y0.toList && (x1 == y1 && (x2 == y2 && (x3 == y3)))) w := by
 refine eqA_of Try.underlying23 (by kernel_rfl) ?_
 refine eqf_cons (by rfl) (by go_simp; rfl) (by go_simp; rfl) (by go_simp) ?_
 refine eqf_cons (by rfl) (by go_simp; rfl) (by go_simp; rfl) (by go_simp) ?_
 refine eqf_cons (by rfl) (by go_simp; rfl) (by go_simp; rfl) (by go_simp) ?_
 exact eqf_last (by rfl) (by go_simp; rfl) (by go_simp; rfl) (by go_simp)
theorem eqA25 (d : Nat) (w : World) (x0 y0 : Int) (x1 y1 : Int) :
  (Op.equalIn (d + 2) 25 (.agg #[.int .i64 x0, .int .i64 x1]) (.agg #[.int .i64 y0, .int .i64 y1])).run Try.prog w = .ok (x0 == y0 && (x1 == y1)) w := by
 refine eqA_of Try.underlying25 (by kernel_rfl) ?_
 refine eqf_cons (by rfl) (by go_simp; rfl) (by go_simp; rfl) (by go_simp) ?_
 exact eqf_last (by rfl) (by go_simp; rfl) (by go_simp; rfl) (by go_simp)
theorem eqA113 (d : Nat) (w : World) (x0 y0 : ByteArray) (x1 y1 : ByteArray) (x2 y2 : ByteArray) (x3 y3 : Int) (x4 y4 : Int) (x5 y5 : Bool) (x6 y6 : Int) (x7 y7 : Int) :
  (Op.equalIn (d + 3) 113 (.agg #[.string x0, .string x1, .string x2, .int .i64 x3, .int .i64 x4, .bool x5, .int .i64 x6, .int .i64 x7]) (.agg #[.string y0, .string y1, .string y2, .int .i64 y3, .int .i64 y4, .bool y5, .int .i64 y6, .int .i64 y7])).run Try.prog w = .ok (x0.toList == y0.toList && (x1.toList == y1.toList && ((x2.toList == y2.toList && (x3 == y3 && (x4 == y4 && (x5 == y5)))) && ((x6 == y6 && (x7 == y7)))))) w := by
 refine eqA_of Try.underlying113 (by kernel_rfl) ?_
 refine eqf_cons (by rfl) (by go_simp; rfl) (by go_simp; rfl) (by go_simp) ?_
 refine eqf_cons (by rfl) (by go_simp; rfl) (by go_simp; rfl) (by go_simp) ?_
 refine eqf_cons (by rfl) (by go_simp) (by go_simp) (eqA23 (d + 0) w _ _ _ _ _ _ _ _) ?_
 exact eqf_last (by rfl) (by go_simp) (by go_simp) (eqA25 (d + 0) w _ _ _ _)
theorem eqA62 (d : Nat) (w : World) (x0 y0 : ByteArray) (x1 y1 : ByteArray) (x2 y2 : Int) (x3 y3 : Int) :
  (Op.equalIn (d + 2) 62 (.agg #[.string x0, .string x1, .int .i64 x2, .int .i64 x3]) (.agg #[.string y0, .string y1, .int .i64 y2, .int .i64 y3])).run Try.prog w = .ok (x0.toList == y0.toList && (x1.toList == y1.toList && (x2 == y2 && (x3 == y3)))) w := by
 refine eqA_of Try.underlying62 (by kernel_rfl) ?_
 refine eqf_cons (by rfl) (by go_simp; rfl) (by go_simp; rfl) (by go_simp) ?_
 refine eqf_cons (by rfl) (by go_simp; rfl) (by go_simp; rfl) (by go_simp) ?_
 refine eqf_cons (by rfl) (by go_simp; rfl) (by go_simp; rfl) (by go_simp) ?_
 exact eqf_last (by rfl) (by go_simp; rfl) (by go_simp; rfl) (by go_simp)
theorem eqA60 (d : Nat) (w : World) (x0 y0 : Int) (x1 y1 : Bool) (x2 y2 : ByteArray) (x3 y3 : ByteArray) :
  (Op.equalIn (d + 2) 60 (.agg #[.int .i64 x0, .bool x1, .string x2, .string x3]) (.agg #[.int .i64 y0, .bool y1, .string y2, .string y3])).run Try.prog w = .ok (x0 == y0 && (x1 == y1 && (x2.toList == y2.toList && (x3.toList == y3.toList)))) w := by
 refine eqA_of Try.underlying60 (by kernel_rfl) ?_
 refine eqf_cons (by rfl) (by go_simp; rfl) (by go_simp; rfl) (by go_simp) ?_
 refine eqf_cons (by rfl) (by go_simp; rfl) (by go_simp; rfl) (by go_simp) ?_
 refine eqf_cons (by rfl) (by go_simp; rfl) (by go_simp; rfl) (by go_simp) ?_
 exact eqf_last (by rfl) (by go_simp; rfl) (by go_simp; rfl) (by go_simp)
end Go.Proofs.Ytobanhbjkomieaa.EQ
end
section
namespace Go.Proofs.Ytobanhbjkomieaa.TA
open Go
set_option linter.unusedSimpArgs false
set_option linter.unusedVariables false
theorem opsOk_all {os : List Opn} : ∀ {n : Nat} (hn : n ≤ os.length), opsOk os n = true → (∀ i (hi : i < n), mayO (os[i]'(by omega)) = true) ∧ ∀ i j (hij : i < j) (hj : j < n), (os[i]'(by omega)).key ≠ (os[j]'(by omega)).key
  | 0, _, _ => ⟨fun i hi => absurd hi (by omega), fun i j _ hj => absurd hj (by omega)⟩
  | n + 1, hn, h => by
    rw [opsOk_succ (by omega)] at h
    simp only [Bool.and_eq_true, Bool.not_eq_true'] at h
    obtain ⟨h0, h1, h2⟩ := h
    obtain ⟨q1, q2⟩ := opsOk_all (n := n) (by omega) h0
    refine ⟨fun i hi => ?_, fun i j hij hj => ?_⟩
    · rcases Nat.lt_or_ge i n with hin | hin
      · exact q1 i hin
      · obtain rfl : i = n := by omega
        exact h1
    · rcases Nat.lt_or_ge j n with hjn | hjn
      · exact q2 i j hij hjn
      · obtain rfl : j = n := by omega
        intro e
        have hm : os[i] ∈ os.take j := List.mem_take_iff_getElem.2 ⟨i, by omega, rfl⟩
        have := List.any_eq_false.1 h2 _ hm
        exact this (by simp [e])
theorem mayTx_len {cs : List Cnd} {os : List Opn} (h : mayTx cs os = true) : cs.length ≤ 8 ∧ os.length ≤ 8 := by
  unfold mayTx at h
  simp only [Bool.and_eq_true, decide_eq_true_eq] at h
  exact h.1
theorem mayTx_ops {cs : List Cnd} {os : List Opn} (h : mayTx cs os = true) : (∀ o ∈ os, mayO o = true) ∧ Apart os := by
  unfold mayTx at h
  simp only [Bool.and_eq_true, decide_eq_true_eq] at h
  obtain ⟨q1, q2⟩ := opsOk_all (Nat.le_refl _) h.2.2
  refine ⟨fun o ho => ?_, List.pairwise_iff_getElem.2 fun i j hi hj hij => q2 i j hij hj⟩
  obtain ⟨i, hi, rfl⟩ := List.getElem_of_mem ho
  exact q1 i hi
theorem mayTx_conds {cs : List Cnd} {os : List Opn} (h : mayTx cs os = true) : ∀ c ∈ cs, badC c = false := by
  unfold mayTx at h
  simp only [Bool.and_eq_true, decide_eq_true_eq, Bool.not_eq_true'] at h
  intro c hc
  have := List.any_eq_false.1 h.2.1 c hc
  simpa using this
theorem ins_leN {x : Ent} : ∀ l : List Ent, (insL x l).length ≤ l.length + 1
  | [] => by simp [insL]
  | y :: l => by
    have := ins_leN (x := x) l
    simp only [insL]
    split
    · simp
    · split
      · simp only [List.length_cons]; omega
      · simp
theorem del_leN {k : ByteArray} {l : List Ent} : (delL k l).length ≤ l.length := List.length_filter_le _ _
theorem opL_le {rev : Int} {o : Opn} {l : List Ent} : (opL rev o l).1.length ≤ l.length + 1 ∧ (opL rev o l).2.length ≤ 1 := by
  unfold opL
  split
  · split
    · exact ⟨Nat.le_succ_of_le del_leN, by simp⟩
    · simp
  · exact ⟨ins_leN _, by simp⟩
theorem opsL_le {rev : Int} : ∀ {os : List Opn} {l : List Ent}, (opsL rev os l).1.length ≤ l.length + os.length ∧ (opsL rev os l).2.length ≤ os.length
  | [], l => by simp [opsL]
  | o :: os, l => by
    have h1 := opL_le (rev := rev) (o := o) (l := l)
    have h2 := opsL_le (rev := rev) (os := os) (l := (opL rev o l).1)
    simp only [opsL, List.length_append, List.length_cons]
    omega
theorem do_le {may : Bool} {cs : List Cnd} {os : List Opn} {m : Md} (hm : may = true → os.length ≤ 8) : (doM may cs os m).1.row.length ≤ m.row.length + 8 ∧ (doM may cs os m).1.hap.length ≤ m.hap.length + 8 := by
  unfold doM
  cases may
  · simp
  · have h8 := hm rfl
    simp only [Bool.not_true, Bool.false_eq_true, if_false]
    repeat' split
    all_goals try simp
    have h2 := opsL_le (rev := m.rev + 1) (os := os) (l := m.row)
    omega
def may (x : Tx) : Bool := mayTx x.cs x.os
theorem run_le : ∀ (l : List Tx) (m : Md), (run may l m).row.length ≤ m.row.length + 8 * l.length ∧ (run may l m).hap.length ≤ m.hap.length + 8 * l.length
  | [], m => by simp [run]
  | x :: l, m => by
    have h1 := do_le (may := may x) (cs := x.cs) (os := x.os) (m := m) (fun h => (mayTx_len h).2)
    have h2 := run_le l (doM (may x) x.cs x.os m).1
    simp only [run, List.length_cons]
    omega
theorem srt_get {l : List Ent} (h : Srt l) {x : Ent} (hx : x ∈ l) : getL x.key l = some x := by
  obtain ⟨L, R, rfl⟩ := List.append_of_mem hx
  exact get_here rfl h
theorem srt_at {l : List Ent} (h : Srt l) {i j : Nat} (hij : i < j) (hj : j < l.length) : lt (l[i]'(by omega)).key l[j].key = true := List.pairwise_iff_getElem.1 h i j (by omega) hj hij
theorem list_all {p : ByteArray} (hp : p.data.toList = []) (l : List Ent) : listL p l = l := by
  unfold listL
  rw [List.filter_eq_self]
  intro x _
  rw [hp]
  rfl
theorem since_cut {p : ByteArray} {n k : Int} {l : List Evt} (h : k < n) : sinceL p n (l.filter fun x => decide (k < x.rev)) = sinceL p n l := by
  unfold sinceL
  rw [List.filter_filter]
  refine List.filter_congr fun x _ => ?_
  by_cases c : n ≤ x.rev
  · have : k < x.rev := by omega
    simp [c, this]
  · simp [c]
theorem cut_none {m : Md} (h : Ok m) : (m.hap.filter fun x => decide (m.low < x.rev)) = m.hap := List.filter_eq_self.2 fun x hx => decide_eq_true (h.hap x hx).1
theorem holds_own (l : List Ent) : ∀ ks : List ByteArray, holdsL (ks.map fun k => ⟨k, (getD k l).mod⟩) l = true
  | [] => rfl
  | k :: ks => by
    have := holds_own l ks
    simp only [holdsL, List.map_cons, List.all_cons] at this ⊢
    simp [this]
theorem holds_set {l : List Ent} {n : Int} : ∀ {cs : List Cnd} {k : Nat} (hk : k < cs.length), holdsL cs l = true → n ≠ cs[k].mod → holdsL (cs.set k ⟨cs[k].key, n⟩) l = false
  | [], _, hk, _, _ => absurd hk (by simp)
  | c :: cs, 0, _, h, hn => by
    simp only [holdsL, List.all_cons, Bool.and_eq_true, decide_eq_true_eq] at h
    simp only [holdsL, List.set_cons_zero, List.getElem_cons_zero, List.all_cons]
    have : ¬ (getD c.key l).mod = n := fun e => hn (by rw [List.getElem_cons_zero, ← h.1, e])
    simp [this]
  | c :: cs, k + 1, hk, h, hn => by
    simp only [holdsL, List.all_cons, Bool.and_eq_true] at h
    have := holds_set (l := l) (n := n) (cs := cs) (k := k) (by simpa using hk) h.2 (by simpa using hn)
    simp only [holdsL, List.set_cons_succ, List.getElem_cons_succ, List.all_cons] at this ⊢
    rw [this, Bool.and_false]
theorem any_set {α : Type} {f : α → Bool} {y : α} : ∀ {l : List α} {k : Nat}, k < l.length → (∀ x ∈ l, f x = false) → (l.set k y).any f = f y
  | [], _, hk, _ => absurd hk (by simp)
  | x :: l, 0, _, h => by
    have : l.any f = false := List.any_eq_false.2 fun z hz => by simp [h z (by simp [hz])]
    simp [this]
  | x :: l, k + 1, hk, h => by
    have := any_set (f := f) (y := y) (l := l) (k := k) (by simpa using hk) (fun z hz => h z (by simp [hz]))
    simp [this, h x (by simp)]
theorem may_set {cs : List Cnd} {os : List Opn} {k : Nat} (hk : k < cs.length) (n : Int) (h : mayTx cs os = true) : mayTx (cs.set k ⟨cs[k].key, n⟩) os = mayR n := by
  have hb := mayTx_conds h
  have hc := hb cs[k] (List.getElem_mem hk)
  unfold mayTx at h ⊢
  simp only [Bool.and_eq_true, decide_eq_true_eq] at h
  rw [List.length_set, any_set hk hb, decide_eq_true h.1, h.2.2]
  unfold badC at hc ⊢
  rw [Bool.or_eq_false_iff] at hc
  simp only [hc.1, Bool.false_or, Bool.not_not, Bool.true_and, Bool.and_true]
theorem set_same {cs : List Cnd} {k : Nat} (hk : k < cs.length) : cs.set k ⟨cs[k].key, cs[k].mod⟩ = cs := List.set_getElem_self hk
theorem do_done {may : Bool} {cs : List Cnd} {os : List Opn} {m : Md} (h : (doM may cs os m).2.2.1 = true) : may = true ∧ holdsL cs m.row = true ∧ (os = [] ∨ m.rev ≠ 1099511627776) ∧ (doM may cs os m).2.2.2 = 0 := by
  unfold doM at h ⊢
  cases may
  · simp at h
  · cases hh : holdsL cs m.row
    · simp [hh] at h
    · by_cases ho : os = []
      · simp [ho]
      · by_cases hr : m.rev = 1099511627776
        · simp [hh, ho, hr] at h
        · simp [ho, hr]
theorem do_not {may : Bool} {cs : List Cnd} {os : List Opn} {m : Md} (h : (doM may cs os m).2.2.1 = false ∨ os = []) : (doM may cs os m).1 = m ∧ (doM may cs os m).2.1 = [] := by
  unfold doM at h ⊢
  cases may
  · simp
  · cases hh : holdsL cs m.row
    · simp
    · by_cases ho : os = []
      · simp [ho]
      · by_cases hr : m.rev = 1099511627776
        · simp [ho, hr]
        · simp [hh, ho, hr] at h
theorem do_err {may : Bool} {cs : List Cnd} {os : List Opn} {m : Md} (hr : m.rev ≠ 1099511627776) : ((doM may cs os m).2.2.2 = 0 ↔ may = true) ∧ ((doM may cs os m).2.2.2 = 0 → (doM may cs os m).2.2.1 = holdsL cs m.row) := by
  unfold doM
  cases may
  · simp
  · cases hh : holdsL cs m.row
    · simp
    · by_cases ho : os = []
      · simp [ho]
      · simp [ho, hr]
theorem do_ops {cs : List Cnd} {os : List Opn} {m : Md} (hh : holdsL cs m.row = true) (ho : os ≠ []) (hr : m.rev ≠ 1099511627776) :
    doM true cs os m = (⟨(opsL (m.rev + 1) os m.row).1, m.rev + 1, m.low, m.hap ++ (opsL (m.rev + 1) os m.row).2⟩, (opsL (m.rev + 1) os m.row).2, true, 0) := by
  unfold doM
  simp [hh, ho, hr]
theorem opsL_snoc {rev : Int} {o : Opn} : ∀ {os : List Opn} {l : List Ent}, opsL rev (os ++ [o]) l = ((opL rev o (opsL rev os l).1).1, (opsL rev os l).2 ++ (opL rev o (opsL rev os l).1).2)
  | [], l => by simp [opsL]
  | p :: os, l => by
    simp only [List.cons_append, opsL]
    rw [opsL_snoc (os := os)]
    simp [List.append_assoc]
end Go.Proofs.Ytobanhbjkomieaa.TA
end
