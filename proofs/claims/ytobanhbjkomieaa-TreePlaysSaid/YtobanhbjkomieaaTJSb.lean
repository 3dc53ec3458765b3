import Derived.Test.YtobanhbjkomieaaTMSb
import Derived.RangeFuncKeeps
import Derived.RangeFuncBound
import Derived.RangeFuncLeaves
import Derived.RangeFuncFrom
import Derived.RangeFuncBox
import Derived.Shelf.Abstract
import Derived.OwnWalkIn
import Derived.TacticsInMore
import Derived.LoopNIn
namespace Go.Proofs.Ytobanhbjkomieaa.TA
open Go Go.RowKit Go.Shelf Go.Proofs Go.Proofs.Ytobanhbjkomieaa.KP Go.Proofs.YtobanhbjkomieaaW.PrintWords Go.Proofs.YtobanhbjkomieaaW.PrintLast Go.Proofs.YtobanhbjkomieaaW.PrintMore
open Go.Proofs.Ytobanhbjkomieaa.RP (wTake wSkip wOne wpAnyH_cast below_next0)
set_option linter.unusedSimpArgs false
set_option linter.unusedVariables false
attribute [local go_sem] Oper.semAt_some
theorem room_of_none {F : Fence} (hd : F.depth = none) (k : Nat) : F.room k := fun d h => by rw [hd] at h; cases h
theorem RoundIn_anyDepth {F : Fence} (hd : F.depth = none) {m m' : Nat} {P : Program} {l : Nat} {f : FuncId} {tmps : Array Value} {assign body : Code} {w : World} {R : Ending → World → Prop}
    (h : RoundIn F m P l f tmps assign body w R) : RoundIn F m' P l f tmps assign body w R := ⟨h.1, fun c cs _ => h.2 c cs (room_of_none hd _)⟩
theorem YieldAt_anyDepth {F : Fence} (hd : F.depth = none) {m : Nat} (m' : Nat) {P : Program} {l : Nat} {args : Array Value} {W : World} {R : Ending → World → Prop} (h : YieldAt F m P l args W R) : YieldAt F m' P l args W R := by
  obtain ⟨fn, tmps, assign, body, hy, hR⟩ := h
  exact ⟨fn, tmps, assign, body, hy, RoundIn_anyDepth hd hR⟩
section
variable {F : Fence} {n : Nat} {P : Program} {ops : Array Oper} {Q : Exit → Act → World → Prop} {md : Region.Mode}
theorem iTake (i : Nat) {oi : Oper} {v : Value} {fuel : Nat} {listed : Array Bool} {a : Act} {w : World} (hro : F.round = none) (h : wpAnyIn F n P md ops Q fuel (listed.setIfInBounds i true) (a.put oi.dst v) w)
    (hi : ops[i]? = some oi := by (simp only [List.getElem?_toArray, List.getElem?_cons_zero, List.getElem?_cons_succ]; rfl))
    (hs : Region.noSelect ops = true := by kernel_rfl) (hf : Region.free md ops listed i = true := by kernel_rfl) (hr : (Region.ready md ops listed).contains i = true := by kernel_rfl)
    (hQ : ∀ c a w, Q (.panic c) (a.put oi.dst v) w → Q (.panic c) a w := by exact fun _ _ _ h => h)
    (hy : YieldsFenced P ops oi v a := by (refine ⟨Or.inl ⟨by rfl, ?_⟩, fun _ => rfl⟩; intro w; go_simp; try with_reducible rfl)) : wpAnyIn F n P md ops Q (fuel + 1) listed a w := wpAnyIn_take hro hi hs hf hr hQ hy h
theorem iSkip (i : Nat) {oi : Oper} {fuel : Nat} {listed : Array Bool} {a : Act} {w : World} (hro : F.round = none) (h : wpAnyIn F n P md ops Q fuel (listed.setIfInBounds i true) (a.put oi.dst undef) w)
    (hi : ops[i]? = some oi := by (simp only [List.getElem?_toArray, List.getElem?_cons_zero, List.getElem?_cons_succ]; rfl))
    (hs : Region.noSelect ops = true := by kernel_rfl) (hf : Region.free md ops listed i = true := by kernel_rfl) (hr : (Region.ready md ops listed).contains i = true := by kernel_rfl)
    (hQ : ∀ c a w, Q (.panic c) (a.put oi.dst undef) w → Q (.panic c) a w := by exact fun _ _ _ h => h)
    (hy : YieldsFenced P ops oi undef a := by exact ⟨Or.inr ⟨by rfl, rfl⟩, fun _ => rfl⟩) : wpAnyIn F n P md ops Q (fuel + 1) listed a w := wpAnyIn_take hro hi hs hf hr hQ hy h
theorem iOne (i : Nat) {o : Oper} {fuel : Nat} {listed : Array Bool} {a : Act} {w : World}
    (h : ∀ K' : Act → World → Prop, (∀ a w, wpAnyIn F n P md ops Q fuel (listed.setIfInBounds i true) a w → K' a w) → if Region.wanted o (yielded ops a.tmps) = true then Oper.wpIn F n P o a w K' Q else (∀ f, o.about P w a.eval = some f → F.fn f) ∧ K' (a.put o.dst undef) w)
    (hr : Region.ready md ops listed = [i] := by kernel_rfl) (ho : ops[i]? = some o := by rfl) : wpAnyIn F n P md ops Q (fuel + 1) listed a w := wpAnyIn_ready hr (by simp) (AllReadyIn.cons ho h AllReadyIn.nil)
theorem wpAnyIn_cast {fuel : Nat} {l l' : Array Bool} {a : Act} {w : World} (h : l = l') (H : wpAnyIn F n P md ops Q fuel l' a w) : wpAnyIn F n P md ops Q fuel l a w := h ▸ H
theorem cut0 {goal : Prop} {G : Prop} (main : G → goal) (pf : G) : goal := main pf
end
abbrev encE (x : Ent) : Array Value := #[.string x.key, entV x]
set_option maxRecDepth 100000 in
set_option maxHeartbeats 10000000 in
theorem walk_in (F : Fence) (hd : F.depth = none) (hwf : F.fn 172) (hro : F.round = none) (l : Nat) (W0 : World) (N : Nat) (f : ByteArray) (J Jx : List Ent → World → Prop) (hJd : ∀ pre W, J pre W → J pre W.drew)
    (hY : ∀ m pre x W, J pre W → pre.length < N → YieldAt F m Try.prog l (encE x) W fun e W' =>
      (e = .returned (.bool true) ∧ J (pre ++ [x]) W' ∧ Below W0.heap.size W W') ∨ (e = .returned (.bool false) ∧ Jx (pre ++ [x]) W')) (T : AT) :
    ∀ (n : Nat) (pre : List Ent) (W : World), T.In W0 → Below W0.heap.size W0 W → J pre W → pre.length + (T.from_ f).length ≤ N →
      CallsIn F n Try.prog 172 #[.pointer T.adr, .string f, .func (.yield l) #[] #[]] W fun e W' =>
        (e = .returned (.bool true) ∧ J (pre ++ T.from_ f) W' ∧ Below W0.heap.size W W') ∨ (e = .returned (.bool false) ∧ ∃ q, q <+: T.from_ f ∧ Jx (pre ++ q) W') := by
  induction T with
  | nil =>
    intro n pre W ht hb hJ _
    refine callsIn_of_wp Try.func172 rfl hwf ?_ hro
    simp only [adr_nil, Try.ntmps172, List.size_toArray, List.length_cons, List.length_nil, Nat.reduceAdd, Nat.reduceSub, Array.replicate_succ, Array.replicate_zero, List.push_toArray, List.append_toArray, List.nil_append, List.cons_append]
    gi_wp2
    go_ret
    exact .inl ⟨rfl, by simpa [AT.from_] using hJ, Below.refl _ _⟩
  | node b e tl tr h ihl ihr =>
    intro n pre W ht hb0 hJ hN
    obtain ⟨h0, il, ir⟩ := ht
    have hdd : ∀ k : Nat, (F.depth.isSome = true → 1 ≤ k) := fun k h => by rw [hd] at h; cases h
    have HB := Lib.hid h0
    have lb := blk_lt h0
    have cell : ∀ (W' : World), Below W0.heap.size W0 W' → W'.heap[b]? = some (.cells #[.string e.key, .string e.key, .string e.val, .int .i64 e.made, .int .i64 e.mod, .pointer tl.adr, .pointer tr.adr, .int .i64 h] 218 (0, 0)) := fun W' hW' => (hW'.block b lb).trans h0
    have CELL := Lib.hid cell
    have c := cell W hb0
    have z0 := blk_cell c 0
    have z1 := blk_cell c 1
    have z2 := blk_cell c 2
    have z3 := blk_cell c 3
    have z4 := blk_cell c 4
    have z5 := blk_cell c 5
    have z6 := blk_cell c 6
    simp only [List.getElem?_toArray, List.getElem?_cons_zero, List.getElem?_cons_succ] at z0 z1 z2 z3 z4 z5 z6
    clear c cell h0
    cases hk : lt e.key f
    · have k1 := lt_bytes hk
      have hf : (AT.node b e tl tr h).from_ f = tl.from_ f ++ e :: tr.from_ f := by simp only [AT.from_, hk, Bool.false_eq_true, if_false]
      rw [hf] at hN ⊢
      simp only [List.length_append, List.length_cons] at hN
      have HIR := Lib.hid ihr
      have hy2 : ∀ W1, J (pre ++ tl.from_ f) W1 → Below W0.heap.size W.drew W1 → YieldAt F (n - 1) Try.prog l (encE e) W1 fun e2 W2 =>
          (e2 = .returned (.bool true) ∧ J (pre ++ tl.from_ f ++ [e]) W2 ∧ Below W0.heap.size W.drew W2) ∨ (e2 = .returned (.bool false) ∧ Jx (pre ++ tl.from_ f ++ [e]) W2) := fun W1 hJ1 hb =>
        YieldAt.mono (hY (n - 1) _ e W1 hJ1 (by simp; omega)) fun e2 W2 h => h.elim (fun ⟨he, hj, hb2⟩ => .inl ⟨he, hj, hb.trans hb2⟩) .inr
      have I1 := (ihl (n - 1) pre W.drew il hb0.drew (hJd _ _ hJ) (by omega)).mono (R' := fun e2 W1 =>
          (e2 = .returned (.bool true) ∧ Below W0.heap.size W.drew W1 ∧ Hid (W1.heap[b]? = some (.cells #[.string e.key, .string e.key, .string e.val, .int .i64 e.made, .int .i64 e.mod, .pointer tl.adr, .pointer tr.adr, .int .i64 h] 218 (0, 0))) ∧ YieldAt F (n - 1) Try.prog l (encE e) W1 fun e2 W2 =>
            (e2 = .returned (.bool true) ∧ J (pre ++ tl.from_ f ++ [e]) W2 ∧ Below W0.heap.size W.drew W2) ∨ (e2 = .returned (.bool false) ∧ Jx (pre ++ tl.from_ f ++ [e]) W2)) ∨
          (e2 = .returned (.bool false) ∧ ∃ q, q <+: tl.from_ f ∧ Jx (pre ++ q) W1))
        (fun e2 W1 h => h.elim (fun ⟨he, hj, hb1⟩ => .inl ⟨he, hb1, CELL.out W1 (hb0.drew.trans hb1), hy2 W1 hj hb1⟩) .inr)
      have HI := Lib.hid I1
      clear I1 hy2 ihl ihr hY
      refine callsIn_of_wp Try.func172 rfl hwf ?_ hro
      simp only [adr_node, Try.ntmps172, List.size_toArray, List.length_cons, List.length_nil, Nat.reduceAdd, Nat.reduceSub, Array.replicate_succ, Array.replicate_zero, List.push_toArray, List.append_toArray, List.nil_append, List.cons_append]
      -- THE REGION
      gi_wp2
      refine wpIn_region_any (by kernel_rfl) ?_
      try (change wpAnyIn _ _ _ _ _ _ _ _ _ (World.drew _))
      refine iTake 0 hro ?_
      try simp only [Act.put, List.setIfInBounds_toArray, List.set_cons_zero, List.set_cons_succ]
      refine iTake 1 hro ?_
      try simp only [Act.put, List.setIfInBounds_toArray, List.set_cons_zero, List.set_cons_succ]
      refine iTake 2 hro ?_
      try simp only [Act.put, List.setIfInBounds_toArray, List.set_cons_zero, List.set_cons_succ]
      refine iTake 4 hro ?_
      try simp only [Act.put, List.setIfInBounds_toArray, List.set_cons_zero, List.set_cons_succ]
      refine iTake 5 hro ?_
      try simp only [Act.put, List.setIfInBounds_toArray, List.set_cons_zero, List.set_cons_succ]
      refine iOne 3 (fun K hK => ?_)
      go_simp
      refine hK _ _ ?_
      clear hK K
      try simp only [Act.put, List.setIfInBounds_toArray, List.set_cons_zero, List.set_cons_succ]
      refine iOne 6 (fun K hK => ?_)
      go_simp
      gi_wp2_with ((try refine ⟨hdd _, ?_⟩); gi_at_call 172; refine HI.out.mono ?_; clear HI; rintro e2 W1 (⟨rfl, hb1, hc1, fn, tmps, assign, body, hy, hR⟩ | ⟨rfl, q, hq, hx1⟩))
      · have y0 := blk_cell hc1.out 0
        have y1 := blk_cell hc1.out 1
        have y2 := blk_cell hc1.out 2
        have y3 := blk_cell hc1.out 3
        have y4 := blk_cell hc1.out 4
        simp only [List.getElem?_toArray, List.getElem?_cons_zero, List.getElem?_cons_succ] at y0 y1 y2 y3 y4
        have HY := Lib.hid hy
        have HR := Lib.hid hR
        have HC1 := Lib.hid hc1
        clear hy hR hc1
        refine iTake 7 hro ?_
        try simp only [Act.put, List.setIfInBounds_toArray, List.set_cons_zero, List.set_cons_succ]
        refine iTake 8 hro ?_
        try simp only [Act.put, List.setIfInBounds_toArray, List.set_cons_zero, List.set_cons_succ]
        refine iTake 9 hro ?_
        try simp only [Act.put, List.setIfInBounds_toArray, List.set_cons_zero, List.set_cons_succ]
        refine iTake 10 hro ?_
        try simp only [Act.put, List.setIfInBounds_toArray, List.set_cons_zero, List.set_cons_succ]
        refine iTake 11 hro ?_
        try simp only [Act.put, List.setIfInBounds_toArray, List.set_cons_zero, List.set_cons_succ]
        refine iTake 13 hro ?_
        try simp only [Act.put, List.setIfInBounds_toArray, List.set_cons_zero, List.set_cons_succ]
        refine iTake 14 hro ?_
        try simp only [Act.put, List.setIfInBounds_toArray, List.set_cons_zero, List.set_cons_succ]
        refine iTake 15 hro ?_
        try simp only [Act.put, List.setIfInBounds_toArray, List.set_cons_zero, List.set_cons_succ]
        apply cut0
        · intro REST
          have RE := Lib.hid REST
          clear REST
          refine wpAnyIn_ready (rs := [12, 16]) (by kernel_rfl) (by simp) (AllReadyIn.cons rfl (fun K hK => ?_) (AllReadyIn.cons rfl (fun K hK => ?_) AllReadyIn.nil))
          · go_simp
            refine hK _ _ ?_
            clear hK K
            try simp only [Act.put, List.setIfInBounds_toArray, List.set_cons_zero, List.set_cons_succ]
            refine iOne 16 (fun K hK => ?_)
            go_simp
            refine hK _ _ ?_
            clear hK K
            try simp only [Act.put, List.setIfInBounds_toArray, List.set_cons_zero, List.set_cons_succ]
            refine wpAnyIn_cast (l' := #[true, true, true, true, true, true, true, true, true, true, true, true, true, true, true, true, true, false, false, false, false, false, false, false, false, false, false, false, false]) (by kernel_rfl) ?_
            exact RE.out
          · go_simp
            refine hK _ _ ?_
            clear hK K
            try simp only [Act.put, List.setIfInBounds_toArray, List.set_cons_zero, List.set_cons_succ]
            refine iOne 12 (fun K hK => ?_)
            go_simp
            refine hK _ _ ?_
            clear hK K
            try simp only [Act.put, List.setIfInBounds_toArray, List.set_cons_zero, List.set_cons_succ]
            refine wpAnyIn_cast (l' := #[true, true, true, true, true, true, true, true, true, true, true, true, true, true, true, true, true, false, false, false, false, false, false, false, false, false, false, false, false]) (by kernel_rfl) ?_
            exact RE.out
        clear y0 y1 y2 y3 y4
        have hy := HY.out
        have hR := HR.out
        refine iOne 17 (fun K hK => ?_)
        go_simp
        gi_wp2_with ((try refine ⟨hdd _, ?_⟩); refine hR.mono ?_; clear hR; rintro e2 W2 (⟨rfl, hJ2, hb2⟩ | ⟨rfl, hx2⟩))
        · refine iTake 18 hro ?_
          try simp only [Act.put, List.setIfInBounds_toArray, List.set_cons_zero, List.set_cons_succ]
          refine iTake 19 hro ?_
          try simp only [Act.put, List.setIfInBounds_toArray, List.set_cons_zero, List.set_cons_succ]
          refine iTake 20 hro ?_
          try simp only [Act.put, List.setIfInBounds_toArray, List.set_cons_zero, List.set_cons_succ]
          refine iTake 21 hro ?_
          try simp only [Act.put, List.setIfInBounds_toArray, List.set_cons_zero, List.set_cons_succ]
          refine iTake 22 hro ?_
          try simp only [Act.put, List.setIfInBounds_toArray, List.set_cons_zero, List.set_cons_succ]
          refine iTake 24 hro ?_
          try simp only [Act.put, List.setIfInBounds_toArray, List.set_cons_zero, List.set_cons_succ]
          refine iTake 25 hro ?_
          try simp only [Act.put, List.setIfInBounds_toArray, List.set_cons_zero, List.set_cons_succ]
          have hc2 := CELL.out W2 (hb0.drew.trans hb2)
          have x0 := blk_cell hc2 6
          simp only [List.getElem?_toArray, List.getElem?_cons_zero, List.getElem?_cons_succ] at x0
          refine iOne 23 (fun K hK => ?_)
          go_simp
          refine hK _ _ ?_
          clear hK K
          try simp only [Act.put, List.setIfInBounds_toArray, List.set_cons_zero, List.set_cons_succ]
          refine iOne 26 (fun K hK => ?_)
          go_simp
          gi_wp2_with ((try refine ⟨hdd _, ?_⟩); gi_at_call 172; refine (HIR.out (n - 1) _ _ ir (hb0.drew.trans hb2) hJ2 (by simp; omega)).mono ?_; rintro e2 W3 (⟨rfl, hJ3, hb3⟩ | ⟨rfl, q, hq, hx3⟩))
          · refine iTake 27 hro ?_
            try simp only [Act.put, List.setIfInBounds_toArray, List.set_cons_zero, List.set_cons_succ]
            refine iTake 28 hro ?_
            try simp only [Act.put, List.setIfInBounds_toArray, List.set_cons_zero, List.set_cons_succ]
            refine wpAnyIn_done (by kernel_rfl) ?_ _
            gi_wp2
            go_ret
            exact .inl ⟨rfl, by simpa [List.append_assoc] using hJ3, (Below.refl _ _).drew.trans (hb2.trans hb3)⟩
          · refine iTake 27 hro ?_
            try simp only [Act.put, List.setIfInBounds_toArray, List.set_cons_zero, List.set_cons_succ]
            refine iTake 28 hro ?_
            try simp only [Act.put, List.setIfInBounds_toArray, List.set_cons_zero, List.set_cons_succ]
            refine wpAnyIn_done (by kernel_rfl) ?_ _
            gi_wp2
            go_ret
            exact .inr (by obtain ⟨r, hr'⟩ := hq; exact ⟨rfl, tl.from_ f ++ e :: q, ⟨r, by simp [← hr']⟩, by simpa [List.append_assoc] using hx3⟩)
        · refine iTake 18 hro ?_
          try simp only [Act.put, List.setIfInBounds_toArray, List.set_cons_zero, List.set_cons_succ]
          refine iTake 19 hro ?_
          try simp only [Act.put, List.setIfInBounds_toArray, List.set_cons_zero, List.set_cons_succ]
          refine iSkip 20 hro ?_
          try simp only [Act.put, List.setIfInBounds_toArray, List.set_cons_zero, List.set_cons_succ]
          refine iSkip 21 hro ?_
          try simp only [Act.put, List.setIfInBounds_toArray, List.set_cons_zero, List.set_cons_succ]
          refine iSkip 22 hro ?_
          try simp only [Act.put, List.setIfInBounds_toArray, List.set_cons_zero, List.set_cons_succ]
          refine iSkip 23 hro ?_
          try simp only [Act.put, List.setIfInBounds_toArray, List.set_cons_zero, List.set_cons_succ]
          refine iSkip 24 hro ?_
          try simp only [Act.put, List.setIfInBounds_toArray, List.set_cons_zero, List.set_cons_succ]
          refine iSkip 25 hro ?_
          try simp only [Act.put, List.setIfInBounds_toArray, List.set_cons_zero, List.set_cons_succ]
          refine iOne 26 (fun K hK => ?_)
          go_simp
          refine hK _ _ ?_
          clear hK K
          try simp only [Act.put, List.setIfInBounds_toArray, List.set_cons_zero, List.set_cons_succ]
          refine iTake 27 hro ?_
          try simp only [Act.put, List.setIfInBounds_toArray, List.set_cons_zero, List.set_cons_succ]
          refine iTake 28 hro ?_
          try simp only [Act.put, List.setIfInBounds_toArray, List.set_cons_zero, List.set_cons_succ]
          refine wpAnyIn_done (by kernel_rfl) ?_ _
          gi_wp2
          go_ret
          exact .inr ⟨rfl, tl.from_ f ++ [e], ⟨tr.from_ f, by simp⟩, by simpa [List.append_assoc] using hx2⟩
      · refine iTake 7 hro ?_
        try simp only [Act.put, List.setIfInBounds_toArray, List.set_cons_zero, List.set_cons_succ]
        refine iSkip 8 hro ?_
        try simp only [Act.put, List.setIfInBounds_toArray, List.set_cons_zero, List.set_cons_succ]
        refine iSkip 9 hro ?_
        try simp only [Act.put, List.setIfInBounds_toArray, List.set_cons_zero, List.set_cons_succ]
        refine iSkip 10 hro ?_
        try simp only [Act.put, List.setIfInBounds_toArray, List.set_cons_zero, List.set_cons_succ]
        refine iSkip 11 hro ?_
        try simp only [Act.put, List.setIfInBounds_toArray, List.set_cons_zero, List.set_cons_succ]
        refine iSkip 12 hro ?_
        try simp only [Act.put, List.setIfInBounds_toArray, List.set_cons_zero, List.set_cons_succ]
        refine iSkip 13 hro ?_
        try simp only [Act.put, List.setIfInBounds_toArray, List.set_cons_zero, List.set_cons_succ]
        refine iSkip 14 hro ?_
        try simp only [Act.put, List.setIfInBounds_toArray, List.set_cons_zero, List.set_cons_succ]
        refine iSkip 15 hro ?_
        try simp only [Act.put, List.setIfInBounds_toArray, List.set_cons_zero, List.set_cons_succ]
        refine iSkip 16 hro ?_
        try simp only [Act.put, List.setIfInBounds_toArray, List.set_cons_zero, List.set_cons_succ]
        refine iOne 17 (fun K hK => ?_)
        go_simp
        first | (refine ⟨fun _ h => (by cases h), ?_⟩; refine hK _ _ ?_) | refine hK _ _ ?_
        clear hK K
        try simp only [Act.put, List.setIfInBounds_toArray, List.set_cons_zero, List.set_cons_succ]
        refine iTake 18 hro ?_
        try simp only [Act.put, List.setIfInBounds_toArray, List.set_cons_zero, List.set_cons_succ]
        refine iTake 19 hro ?_
        try simp only [Act.put, List.setIfInBounds_toArray, List.set_cons_zero, List.set_cons_succ]
        refine iSkip 20 hro ?_
        try simp only [Act.put, List.setIfInBounds_toArray, List.set_cons_zero, List.set_cons_succ]
        refine iSkip 21 hro ?_
        try simp only [Act.put, List.setIfInBounds_toArray, List.set_cons_zero, List.set_cons_succ]
        refine iSkip 22 hro ?_
        try simp only [Act.put, List.setIfInBounds_toArray, List.set_cons_zero, List.set_cons_succ]
        refine iSkip 23 hro ?_
        try simp only [Act.put, List.setIfInBounds_toArray, List.set_cons_zero, List.set_cons_succ]
        refine iSkip 24 hro ?_
        try simp only [Act.put, List.setIfInBounds_toArray, List.set_cons_zero, List.set_cons_succ]
        refine iSkip 25 hro ?_
        try simp only [Act.put, List.setIfInBounds_toArray, List.set_cons_zero, List.set_cons_succ]
        refine iOne 26 (fun K hK => ?_)
        go_simp
        refine hK _ _ ?_
        clear hK K
        try simp only [Act.put, List.setIfInBounds_toArray, List.set_cons_zero, List.set_cons_succ]
        refine iTake 27 hro ?_
        try simp only [Act.put, List.setIfInBounds_toArray, List.set_cons_zero, List.set_cons_succ]
        refine iTake 28 hro ?_
        try simp only [Act.put, List.setIfInBounds_toArray, List.set_cons_zero, List.set_cons_succ]
        refine wpAnyIn_done (by kernel_rfl) ?_ _
        gi_wp2
        go_ret
        exact .inr ⟨rfl, q, hq.trans (by simp), hx1⟩
    · have k1 := lt_bytes hk
      have hf : (AT.node b e tl tr h).from_ f = tr.from_ f := by simp only [AT.from_, hk, if_true]
      rw [hf] at hN ⊢
      have I := ihr (n - 1) pre W ir hb0 hJ hN
      have HI := Lib.hid I
      clear I ihl ihr hY
      refine callsIn_of_wp Try.func172 rfl hwf ?_ hro
      simp only [adr_node, Try.ntmps172, List.size_toArray, List.length_cons, List.length_nil, Nat.reduceAdd, Nat.reduceSub, Array.replicate_succ, Array.replicate_zero, List.push_toArray, List.append_toArray, List.nil_append, List.cons_append]
      gi_wp2_with ((try refine ⟨hdd _, ?_⟩); gi_at_call 172; refine HI.out.mono ?_; clear HI; rintro e W1 (⟨rfl, hJ1, hb1⟩ | ⟨rfl, q, hq, hx⟩))
      · go_ret
        exact .inl ⟨rfl, hJ1, hb1⟩
      · go_ret
        exact .inr ⟨rfl, q, hq, hx⟩
set_option maxRecDepth 100000 in
set_option maxHeartbeats 1000000 in
theorem from1_in (F : Fence) (hd : F.depth = none) (n : Nat) (h5 : F.fn 171) (h6 : F.fn 172) (hro : F.round = none) (l Bt Bk : Nat) (W0 : World) (T : AT) (k : ByteArray) (J Jx : List Ent → World → Prop) (hJd : ∀ pre W, J pre W → J pre W.drew)
    (hY : ∀ pre x W, J pre W → pre.length < (T.from_ k).length → YieldAt F (n - 1) Try.prog l (encE x) W fun e W' =>
      (e = .returned (.bool true) ∧ J (pre ++ [x]) W' ∧ Below W0.heap.size W W') ∨ (e = .returned (.bool false) ∧ Jx (pre ++ [x]) W'))
    (W : World) (hBt : W.cell? ⟨Bt, 0, none⟩ = some (.pointer T.adr)) (hBk : W.cell? ⟨Bk, 0, none⟩ = some (.string k)) (hT : T.In W0) (hb : Below W0.heap.size W0 W) (h0 : J [] W) :
    CallsIn F n Try.prog 171 #[.func (.yield l) #[] #[], .pointer (some ⟨Bt, 0, none⟩), .pointer (some ⟨Bk, 0, none⟩)] W fun e W' => (∃ v, e = .returned v) ∧
      ((∃ ys, ys = T.from_ k ∧ J ys W') ∨ (∃ pre, pre <+: T.from_ k ∧ Jx pre W')) := by
  have hdd : ∀ k : Nat, (F.depth.isSome = true → 1 ≤ k) := fun k h => by rw [hd] at h; cases h
  have hp := walk_in F hd h6 hro l W0 (T.from_ k).length k J Jx hJd (fun m pre x W hj hl => YieldAt_anyDepth hd m (hY pre x W hj hl)) T (n - 1) [] W hT hb h0 (by simp)
  refine callsIn_of_wp Try.func171 rfl h5 ?_ hro
  simp only [Try.ntmps171, List.size_toArray, List.length_cons, List.length_nil, Nat.reduceAdd, Nat.reduceSub, Array.replicate_succ, Array.replicate_zero, List.push_toArray, List.append_toArray, List.nil_append, List.cons_append]
  gi_wp2_with ((try refine ⟨hdd _, ?_⟩); gi_at_call 172; refine hp.mono ?_; clear hp; rintro e W1 (⟨rfl, hJ1, _⟩ | ⟨rfl, q, hq, hx⟩))
  · go_end0
    exact ⟨⟨_, rfl⟩, .inl ⟨_, rfl, by simpa using hJ1⟩⟩
  · go_end0
    exact ⟨⟨_, rfl⟩, .inr ⟨q, hq, by simpa using hx⟩⟩
set_option maxHeartbeats 1000000 in
theorem from_in (T : AT) (k : ByteArray) (w : World) :
    Calls Try.prog 116 #[.pointer T.adr, .string k] w fun e w' => e = .returned (.func (.func 171) #[] #[.pointer (some ⟨w.heap.size, 0, none⟩), .pointer (some ⟨w.heap.size + 1, 0, none⟩)]) ∧ w' = (w.alloc (.cells #[.pointer T.adr] 164)).alloc (.cells #[.string k] 9) := by
  go_enter Try.func116, Try.ntmps116
  go_wp2
  go_ret
  exact ⟨rfl, rfl⟩
theorem from_stops (F : Fence) (hd : F.depth = none) (n : Nat) (h5 : F.fn 171) (h6 : F.fn 172) (hro : F.round = none) (Bt Bk : Nat) (W0 : World) (T : AT) (k : ByteArray) (w : World) (hBt : Bt < w.heap.size) (hBk : Bk < w.heap.size)
    (h0 : W0.heap.size ≤ w.heap.size) (hT : T.In W0) (hb : Below W0.heap.size W0 w) (hc : w.cell? ⟨Bt, 0, none⟩ = some (.pointer T.adr)) (hk : w.cell? ⟨Bk, 0, none⟩ = some (.string k)) :
    SeqStopsK F n Try.prog 171 #[.pointer (some ⟨Bt, 0, none⟩), .pointer (some ⟨Bk, 0, none⟩)] encE (Below W0.heap.size) (fun ys => ys = T.from_ k) (fun pre => pre <+: T.from_ k) (T.from_ k).length w := fun l J Jx W hW hJ _ hY hj =>
  from1_in F hd n h5 h6 hro l Bt Bk W0 T k J Jx (fun pre W1 h => hJ pre W1 W1.drew none h ⟨rfl, rfl, rfl, Nat.le_refl _, fun _ _ _ => rfl⟩ (fun r e => by cases e)) hY W ((hW.cell (p := ⟨Bt, 0, none⟩) hBt).trans hc) ((hW.cell (p := ⟨Bk, 0, none⟩) hBk).trans hk) hT (hb.trans (hW.mono h0)) hj
end Go.Proofs.Ytobanhbjkomieaa.TA
