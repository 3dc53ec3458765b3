import Derived.Test.YtobanhbjkomieaaVDSb
namespace Go.Proofs.Ytobanhbjkomieaa.TA
open Go Go.RowKit Go.Proofs.Ytobanhbjkomieaa.KP Go.Proofs.YtobanhbjkomieaaW.PrintWords Go.Proofs.YtobanhbjkomieaaW.PrintLast Go.Proofs.YtobanhbjkomieaaW.PrintMore
open Go.Proofs.Ytobanhbjkomieaa.RP (wTake wSkip wOne wpAnyH_cast below_next0)
set_option linter.unusedSimpArgs false
set_option linter.unusedVariables false
theorem opL_ref {rev : Int} {o : Opn} {l : List Ent} (h : Srt l) : (opL rev o l).1 = (if o.del then delL o.key l else putR ⟨o.key, o.val, madeOf rev o.key l, rev⟩ false (delL o.key l)) := by
  unfold opL
  cases hd : o.del
  · simp only [Bool.false_eq_true, if_false]
    rw [putR_ins (del_srt h) get_del_same, show delL o.key l = delL (Ent.key ⟨o.key, o.val, madeOf rev o.key l, rev⟩) l from rfl, ins_del h]
  · simp only [if_true]
    cases hg : getL o.key l with
    | none => simp only [Option.isSome_none, Bool.false_eq_true, if_false]; rw [del_none]; intro y hy e; have := List.find?_eq_none.1 hg y hy; simp [e] at this
    | some z => rfl
theorem opL_evsR {rev : Int} {o : Opn} {l : List Ent} : (opL rev o l).2 = (if o.del && !(getL o.key l).isSome then [] else [⟨rev, o.del, o.key, o.val⟩]) := by
  unfold opL
  cases hd : o.del <;> cases hg : (getL o.key l).isSome <;> rfl
theorem madeOf_some {rev : Int} {k : ByteArray} {l : List Ent} (h : (getL k l).isSome = true) : madeOf rev k l = (getD k l).made := by
  unfold madeOf getD
  cases hg : getL k l with
  | none => rw [hg] at h; cases h
  | some z => rfl
theorem madeOf_none {rev : Int} {k : ByteArray} {l : List Ent} (h : (getL k l).isSome = false) : madeOf rev k l = rev := by
  unfold madeOf
  cases hg : getL k l with
  | none => rfl
  | some z => rw [hg] at h; cases h
theorem R_noneV (w : World) (base : Nat) (hb : base ≤ w.heap.size) : Kd.R kEvt 60 (w.alloc (.cells #[] 60)) base (fun _ => True) (.slice (some ⟨w.heap.size, 0, none⟩) 0 0) [] :=
  ⟨fun k hk => trivial, OwnRow.lit w base (inner := []) (ps := []) ⟨rfl, fun j p hj => by simp at hj⟩ hb (by simp)⟩
theorem kEvt_MK (w : World) (base : Nat) (ok : Nat → Prop) (x : Evt) (cs : List Value) (h : kEvt.K w x cs) : kEvt.M w base ok x cs := by
  obtain ⟨_, _, rfl, rfl, ⟨_, _, rfl, rfl, ⟨_, _, rfl, rfl, rfl⟩⟩⟩ := h
  exact kEvt_mkM w base ok x
theorem grown_far {W W1 : World} {row : Option Nat} {q : Nat} {cs : Array Value} {T E : TypeId} (hg : W.grownBy W1 row) (hty : ∀ k, row = some k → ∃ cells, W.heap[k]? = some (.cells cells E (0, 0))) (hT : T ≠ E) (h : W.heap[q]? = some (.cells cs T (0, 0))) : W1.heap[q]? = some (.cells cs T (0, 0)) :=
  (hg.block q (blk_lt h) (fun e => by obtain ⟨ds, hd⟩ := hty q e.symm; rw [h] at hd; injection hd with hd; injection hd with _ hd; exact hT hd)).trans h
set_option maxHeartbeats 4000000 in
set_option maxRecDepth 100000 in
theorem doR_any (b : Nat) (m : Md) (A : Option Addr) (ca : Nat) (B : Option Addr) (cb : Nat) (w : World) (hT : Rt w b m A ca B cb) (hn : m.row.length ≤ 1000000000) (hok : Ok m) (hn9 : m.row.length ≤ 900000000) (hmb : m.hap.length ≤ 900000000) (C : Option Addr) (cc : Nat) (cs : List Cnd) (O : Option Addr) (co : Nat) (os : List Opn) (hcc : cs.length ≤ cc) (hC : Kd.C kCnd w C cs.length cs) (hco : os.length ≤ co) (hO : Kd.C kOpn w O os.length os) :
    Calls Try.prog 62 #[.pointer (some ⟨b, 0, none⟩), .agg #[.slice C cs.length cc, .slice O os.length co]] w fun e w' => ∃ V A' ca' B' cb', e = .returned (.tuple #[V, .bool (doM (mayTx cs os) cs os m).2.2.1, .int .i64 (doM (mayTx cs os) cs os m).2.2.2]) ∧ kEvt.R 60 w' w.heap.size (fun _ => True) V (doM (mayTx cs os) cs os m).2.1 ∧ Rt w' b (doM (mayTx cs os) cs os m).1 A' ca' B' cb' ∧ Kb b w w' ∧ (∀ a, B' = some a → 0 < (doM (mayTx cs os) cs os m).1.hap.length → B' = B ∧ 0 < m.hap.length ∨ w.heap.size ≤ a.block) ∧ (∀ a, A' = some a → 0 < (doM (mayTx cs os) cs os m).1.row.length → A' = A ∧ 0 < m.row.length ∨ w.heap.size ≤ a.block) := by
  have HT := Lib.hid hT
  have HC := Lib.hid hC
  have HO := Lib.hid hO
  have HOK := Lib.hid hok
  have lb : b < w.heap.size := blk_lt hT.blk
  have hlo := hok.lo
  clear hT hC hO hok
  cases hm : mayTx cs os
  · have hD : doM false cs os m = (m, [], false, 4) := by unfold doM; simp
    rw [hD]
    clear hD
    have HMY := Lib.hid hm
    clear hm
    go_enter Try.func62, Try.ntmps62
    go_wp2_with fail
    obtain ⟨pb, hpb⟩ : ∃ X, X = w.heap.size := ⟨_, rfl⟩
    try rw [← hpb]
    have hb : Below w.heap.size w (w.alloc (.cells #[.slice C cs.length cc, .slice O os.length co] 34)) := below_alloc (Below.refl _ _) _
    have hN : (w.alloc (.cells #[.slice C cs.length cc, .slice O os.length co] 34)).heap[pb]? = some (.cells #[.slice C cs.length cc, .slice O os.length co] 34 (0, 0)) := hpb ▸ heap_alloc_new w (.cells #[.slice C cs.length cc, .slice O os.length co] 34)
    clear hpb
    generalize w.alloc (.cells #[.slice C cs.length cc, .slice O os.length co] 34) = w1 at *
    have T_1 := Lib.hid (HT.out.below hb)
    have Cc_2 := Lib.hid (Kd.C_below HC.out hb)
    have Co_3 := Lib.hid (Kd.C_below HO.out hb)
    have B_4 := Lib.hid (below_next0 (Below.refl w.heap.size w) hb)
    clear hb
    have Hpb_5 := Lib.hid (hN)
    clear hN
    have hcall := mayRef_any C cc cs O co os w1 hcc Cc_2.out hco Co_3.out
    rw [HMY.out] at hcall
    refine hcall.mono ?_
    clear hcall
    rintro e w2 ⟨rfl, hb⟩
    have T_6 := Lib.hid (T_1.out.below hb)
    have Cc_7 := Lib.hid (Kd.C_below Cc_2.out hb)
    have Co_8 := Lib.hid (Kd.C_below Co_3.out hb)
    have Hpb_9 := Lib.hid ((hb.block _ (blk_lt Hpb_5.out)).trans Hpb_5.out)
    have B_10 := Lib.hid (below_next0 B_4.out hb)
    clear hb
    go_wp2
    go_ret3
    exact ⟨_, A, ca, B, cb, rfl, Kd.R_nil _ _ _ _ _, T_6.out, Kb.of_below B_10.out b, fun _ _ hn => .inl ⟨rfl, hn⟩, fun _ _ hn => .inl ⟨rfl, hn⟩⟩
  · cases hh : holdsL cs m.row
    · have hD : doM true cs os m = (m, [], false, 0) := by unfold doM; simp [hh]
      rw [hD]
      clear hD
      have HHL := Lib.hid hh
      clear hh
      have HMY := Lib.hid hm
      clear hm
      go_enter Try.func62, Try.ntmps62
      go_wp2_with fail
      obtain ⟨pb, hpb⟩ : ∃ X, X = w.heap.size := ⟨_, rfl⟩
      try rw [← hpb]
      have hb : Below w.heap.size w (w.alloc (.cells #[.slice C cs.length cc, .slice O os.length co] 34)) := below_alloc (Below.refl _ _) _
      have hN : (w.alloc (.cells #[.slice C cs.length cc, .slice O os.length co] 34)).heap[pb]? = some (.cells #[.slice C cs.length cc, .slice O os.length co] 34 (0, 0)) := hpb ▸ heap_alloc_new w (.cells #[.slice C cs.length cc, .slice O os.length co] 34)
      clear hpb
      generalize w.alloc (.cells #[.slice C cs.length cc, .slice O os.length co] 34) = w1 at *
      have T_1 := Lib.hid (HT.out.below hb)
      have Cc_2 := Lib.hid (Kd.C_below HC.out hb)
      have Co_3 := Lib.hid (Kd.C_below HO.out hb)
      have B_4 := Lib.hid (below_next0 (Below.refl w.heap.size w) hb)
      clear hb
      have Hpb_5 := Lib.hid (hN)
      clear hN
      have hcall := mayRef_any C cc cs O co os w1 hcc Cc_2.out hco Co_3.out
      rw [HMY.out] at hcall
      refine hcall.mono ?_
      clear hcall
      rintro e w2 ⟨rfl, hb⟩
      have T_6 := Lib.hid (T_1.out.below hb)
      have Cc_7 := Lib.hid (Kd.C_below Cc_2.out hb)
      have Co_8 := Lib.hid (Kd.C_below Co_3.out hb)
      have Hpb_9 := Lib.hid ((hb.block _ (blk_lt Hpb_5.out)).trans Hpb_5.out)
      have B_10 := Lib.hid (below_next0 B_4.out hb)
      clear hb
      have z0 := (blk_cell Hpb_9.out 0).trans rfl
      have z1 := (blk_cell Hpb_9.out 1).trans rfl
      go_wp2_with fail
      clear z0 z1
      have hcall := holdsR_any b m A ca B cb w2 T_6.out hn C cc cs hcc Cc_7.out (by have := (mayTx_len HMY.out).1; omega)
      rw [HHL.out] at hcall
      refine hcall.mono ?_
      clear hcall
      rintro e w3 ⟨rfl, hb⟩
      have T_11 := Lib.hid (T_6.out.below hb)
      have Cc_12 := Lib.hid (Kd.C_below Cc_7.out hb)
      have Co_13 := Lib.hid (Kd.C_below Co_8.out hb)
      have Hpb_14 := Lib.hid ((hb.block _ (blk_lt Hpb_9.out)).trans Hpb_9.out)
      have B_15 := Lib.hid (below_next0 B_10.out hb)
      clear hb
      go_wp2
      go_ret3
      exact ⟨_, A, ca, B, cb, rfl, Kd.R_nil _ _ _ _ _, T_11.out, Kb.of_below B_15.out b, fun _ _ hn => .inl ⟨rfl, hn⟩, fun _ _ hn => .inl ⟨rfl, hn⟩⟩
    · have HHL := Lib.hid hh
      by_cases ho : os.length = 0
      · have hD : doM true cs os m = (m, [], true, 0) := by unfold doM; simp [hh, List.length_eq_zero_iff.1 ho]
        rw [hD]
        clear hD hh
        have e1 : ((os.length : Int) == 0) = true := by (rw [ho]; rfl)
        clear ho
        have HMY := Lib.hid hm
        clear hm
        go_enter Try.func62, Try.ntmps62
        go_wp2_with fail
        obtain ⟨pb, hpb⟩ : ∃ X, X = w.heap.size := ⟨_, rfl⟩
        try rw [← hpb]
        have hb : Below w.heap.size w (w.alloc (.cells #[.slice C cs.length cc, .slice O os.length co] 34)) := below_alloc (Below.refl _ _) _
        have hN : (w.alloc (.cells #[.slice C cs.length cc, .slice O os.length co] 34)).heap[pb]? = some (.cells #[.slice C cs.length cc, .slice O os.length co] 34 (0, 0)) := hpb ▸ heap_alloc_new w (.cells #[.slice C cs.length cc, .slice O os.length co] 34)
        clear hpb
        generalize w.alloc (.cells #[.slice C cs.length cc, .slice O os.length co] 34) = w1 at *
        have T_1 := Lib.hid (HT.out.below hb)
        have Cc_2 := Lib.hid (Kd.C_below HC.out hb)
        have Co_3 := Lib.hid (Kd.C_below HO.out hb)
        have B_4 := Lib.hid (below_next0 (Below.refl w.heap.size w) hb)
        clear hb
        have Hpb_5 := Lib.hid (hN)
        clear hN
        have hcall := mayRef_any C cc cs O co os w1 hcc Cc_2.out hco Co_3.out
        rw [HMY.out] at hcall
        refine hcall.mono ?_
        clear hcall
        rintro e w2 ⟨rfl, hb⟩
        have T_6 := Lib.hid (T_1.out.below hb)
        have Cc_7 := Lib.hid (Kd.C_below Cc_2.out hb)
        have Co_8 := Lib.hid (Kd.C_below Co_3.out hb)
        have Hpb_9 := Lib.hid ((hb.block _ (blk_lt Hpb_5.out)).trans Hpb_5.out)
        have B_10 := Lib.hid (below_next0 B_4.out hb)
        clear hb
        have z0 := (blk_cell Hpb_9.out 0).trans rfl
        have z1 := (blk_cell Hpb_9.out 1).trans rfl
        go_wp2_with fail
        clear z0 z1
        have hcall := holdsR_any b m A ca B cb w2 T_6.out hn C cc cs hcc Cc_7.out (by have := (mayTx_len HMY.out).1; omega)
        rw [HHL.out] at hcall
        refine hcall.mono ?_
        clear hcall
        rintro e w3 ⟨rfl, hb⟩
        have T_11 := Lib.hid (T_6.out.below hb)
        have Cc_12 := Lib.hid (Kd.C_below Cc_7.out hb)
        have Co_13 := Lib.hid (Kd.C_below Co_8.out hb)
        have Hpb_14 := Lib.hid ((hb.block _ (blk_lt Hpb_9.out)).trans Hpb_9.out)
        have B_15 := Lib.hid (below_next0 B_10.out hb)
        clear hb
        have z0 := (blk_cell Hpb_14.out 0).trans rfl
        have z1 := (blk_cell Hpb_14.out 1).trans rfl
        go_wp2
        go_ret3
        exact ⟨_, A, ca, B, cb, rfl, Kd.R_nil _ _ _ _ _, T_11.out, Kb.of_below B_15.out b, fun _ _ hn => .inl ⟨rfl, hn⟩, fun _ _ hn => .inl ⟨rfl, hn⟩⟩
      · have e1 : ((os.length : Int) == 0) = false := beq_eq_false_iff_ne.2 (by omega)
        have hone : os ≠ [] := fun e => ho (by rw [e]; rfl)
        by_cases hr : m.rev = 1099511627776
        · have hD : doM true cs os m = (m, [], false, 40) := by unfold doM; simp [hh, hone, hr]
          rw [hD]
          clear hD hh hone ho
          have HMY := Lib.hid hm
          clear hm
          go_enter Try.func62, Try.ntmps62
          go_wp2_with fail
          obtain ⟨pb, hpb⟩ : ∃ X, X = w.heap.size := ⟨_, rfl⟩
          try rw [← hpb]
          have hb : Below w.heap.size w (w.alloc (.cells #[.slice C cs.length cc, .slice O os.length co] 34)) := below_alloc (Below.refl _ _) _
          have hN : (w.alloc (.cells #[.slice C cs.length cc, .slice O os.length co] 34)).heap[pb]? = some (.cells #[.slice C cs.length cc, .slice O os.length co] 34 (0, 0)) := hpb ▸ heap_alloc_new w (.cells #[.slice C cs.length cc, .slice O os.length co] 34)
          clear hpb
          generalize w.alloc (.cells #[.slice C cs.length cc, .slice O os.length co] 34) = w1 at *
          have T_1 := Lib.hid (HT.out.below hb)
          have Cc_2 := Lib.hid (Kd.C_below HC.out hb)
          have Co_3 := Lib.hid (Kd.C_below HO.out hb)
          have B_4 := Lib.hid (below_next0 (Below.refl w.heap.size w) hb)
          clear hb
          have Hpb_5 := Lib.hid (hN)
          clear hN
          have hcall := mayRef_any C cc cs O co os w1 hcc Cc_2.out hco Co_3.out
          rw [HMY.out] at hcall
          refine hcall.mono ?_
          clear hcall
          rintro e w2 ⟨rfl, hb⟩
          have T_6 := Lib.hid (T_1.out.below hb)
          have Cc_7 := Lib.hid (Kd.C_below Cc_2.out hb)
          have Co_8 := Lib.hid (Kd.C_below Co_3.out hb)
          have Hpb_9 := Lib.hid ((hb.block _ (blk_lt Hpb_5.out)).trans Hpb_5.out)
          have B_10 := Lib.hid (below_next0 B_4.out hb)
          clear hb
          have z0 := (blk_cell Hpb_9.out 0).trans rfl
          have z1 := (blk_cell Hpb_9.out 1).trans rfl
          go_wp2_with fail
          clear z0 z1
          have hcall := holdsR_any b m A ca B cb w2 T_6.out hn C cc cs hcc Cc_7.out (by have := (mayTx_len HMY.out).1; omega)
          rw [HHL.out] at hcall
          refine hcall.mono ?_
          clear hcall
          rintro e w3 ⟨rfl, hb⟩
          have T_11 := Lib.hid (T_6.out.below hb)
          have Cc_12 := Lib.hid (Kd.C_below Cc_7.out hb)
          have Co_13 := Lib.hid (Kd.C_below Co_8.out hb)
          have Hpb_14 := Lib.hid ((hb.block _ (blk_lt Hpb_9.out)).trans Hpb_9.out)
          have B_15 := Lib.hid (below_next0 B_10.out hb)
          clear hb
          have z0 := (blk_cell Hpb_14.out 0).trans rfl
          have z1 := (blk_cell Hpb_14.out 1).trans rfl
          have y0 := (blk_cell T_11.out.blk 0).trans rfl
          have y1 := (blk_cell T_11.out.blk 1).trans rfl
          have y2 := (blk_cell T_11.out.blk 2).trans rfl
          have y3 := (blk_cell T_11.out.blk 3).trans rfl
          have hge : (1099511627776 : Int) ≤ m.rev := by omega
          go_wp2
          go_ret3
          exact ⟨_, A, ca, B, cb, rfl, Kd.R_nil _ _ _ _ _, T_11.out, Kb.of_below B_15.out b, fun _ _ hn => .inl ⟨rfl, hn⟩, fun _ _ hn => .inl ⟨rfl, hn⟩⟩
        · have hD := do_ops hh hone hr
          have hln := mayTx_len hm
          rw [hD]
          have hw : wrap64 (m.rev + 1) = m.rev + 1 := by (unfold wrap64; omega)
          clear hD hh hone ho
          have HMY := Lib.hid hm
          clear hm
          go_enter Try.func62, Try.ntmps62
          go_wp2_with fail
          obtain ⟨pb, hpb⟩ : ∃ X, X = w.heap.size := ⟨_, rfl⟩
          try rw [← hpb]
          have hb : Below w.heap.size w (w.alloc (.cells #[.slice C cs.length cc, .slice O os.length co] 34)) := below_alloc (Below.refl _ _) _
          have hN : (w.alloc (.cells #[.slice C cs.length cc, .slice O os.length co] 34)).heap[pb]? = some (.cells #[.slice C cs.length cc, .slice O os.length co] 34 (0, 0)) := hpb ▸ heap_alloc_new w (.cells #[.slice C cs.length cc, .slice O os.length co] 34)
          clear hpb
          generalize w.alloc (.cells #[.slice C cs.length cc, .slice O os.length co] 34) = w1 at *
          have T_1 := Lib.hid (HT.out.below hb)
          have Cc_2 := Lib.hid (Kd.C_below HC.out hb)
          have Co_3 := Lib.hid (Kd.C_below HO.out hb)
          have B_4 := Lib.hid (below_next0 (Below.refl w.heap.size w) hb)
          clear hb
          have Hpb_5 := Lib.hid (hN)
          clear hN
          have hcall := mayRef_any C cc cs O co os w1 hcc Cc_2.out hco Co_3.out
          rw [HMY.out] at hcall
          refine hcall.mono ?_
          clear hcall
          rintro e w2 ⟨rfl, hb⟩
          have T_6 := Lib.hid (T_1.out.below hb)
          have Cc_7 := Lib.hid (Kd.C_below Cc_2.out hb)
          have Co_8 := Lib.hid (Kd.C_below Co_3.out hb)
          have Hpb_9 := Lib.hid ((hb.block _ (blk_lt Hpb_5.out)).trans Hpb_5.out)
          have B_10 := Lib.hid (below_next0 B_4.out hb)
          clear hb
          have z0 := (blk_cell Hpb_9.out 0).trans rfl
          have z1 := (blk_cell Hpb_9.out 1).trans rfl
          go_wp2_with fail
          clear z0 z1
          have hcall := holdsR_any b m A ca B cb w2 T_6.out hn C cc cs hcc Cc_7.out (by have := (mayTx_len HMY.out).1; omega)
          rw [HHL.out] at hcall
          refine hcall.mono ?_
          clear hcall
          rintro e w3 ⟨rfl, hb⟩
          have T_11 := Lib.hid (T_6.out.below hb)
          have Cc_12 := Lib.hid (Kd.C_below Cc_7.out hb)
          have Co_13 := Lib.hid (Kd.C_below Co_8.out hb)
          have Hpb_14 := Lib.hid ((hb.block _ (blk_lt Hpb_9.out)).trans Hpb_9.out)
          have B_15 := Lib.hid (below_next0 B_10.out hb)
          clear hb
          have z0 := (blk_cell Hpb_14.out 0).trans rfl
          have z1 := (blk_cell Hpb_14.out 1).trans rfl
          have y0 := (blk_cell T_11.out.blk 0).trans rfl
          have y1 := (blk_cell T_11.out.blk 1).trans rfl
          have y2 := (blk_cell T_11.out.blk 2).trans rfl
          have y3 := (blk_cell T_11.out.blk 3).trans rfl
          have yf := blk_frozen T_11.out.blk 1
          have hge : ¬ (1099511627776 : Int) ≤ m.rev := by omega
          go_wp2_with fail
          clear z0 z1
          clear y0 y1 y2 y3 yf
          clear e1 hge hw
          have hK : Kb b w3 (w3.setCell ⟨b, 1, none⟩ (.int .i64 (m.rev + 1))) := (Kb.refl b _).set 1 _
          have hA : Rt (w3.setCell ⟨b, 1, none⟩ (.int .i64 (m.rev + 1))) b ⟨m.row, m.rev + 1, m.low, m.hap⟩ A ca B cb := ⟨blk_put (cs' := rtC ⟨m.row, m.rev + 1, m.low, m.hap⟩ A ca B cb) T_11.out.blk 1 (.int .i64 (m.rev + 1)) rfl, rt_ent T_11.out hK T_11.out.row, rt_evt T_11.out hK T_11.out.hap, T_11.out.cap⟩
          have Co_16 := Lib.hid (rt_opn T_11.out hK Co_13.out)
          have Hpb_17 := Lib.hid (hK.blk Hpb_14.out (far_type T_11.out.blk Hpb_14.out (by decide)))
          have K_18 := Lib.hid ((Kb.of_below B_15.out b).trans hK)
          have T_19 := Lib.hid (hA)
          clear hA hK
          generalize (w3.setCell ⟨b, 1, none⟩ (.int .i64 (m.rev + 1))) = wa at *
          go_loopw [7, 8] (fun out i wr => ∃ (k : Nat) (A2 : Option Addr) (c2 : Nat), k ≤ os.length ∧ i = .int .i64 k ∧ Hid (Rt wr b ⟨(opsL (m.rev + 1) (os.take k) m.row).1, m.rev + 1, m.low, m.hap⟩ A2 c2 B cb) ∧ Hid (Kb b w wr) ∧ Hid (wr.heap[pb]? = some (.cells #[.slice C cs.length cc, .slice O os.length co] 34 (0, 0))) ∧ Hid (kEvt.R 60 wr w.heap.size (fun _ => True) out (opsL (m.rev + 1) (os.take k) m.row).2) ∧ Hid (∀ a, A2 = some a → 0 < (opsL (m.rev + 1) (os.take k) m.row).1.length → ∀ q, out.ownBlock = some q → a.block ≠ q) ∧ Hid (∀ a, A2 = some a → 0 < (opsL (m.rev + 1) (os.take k) m.row).1.length → A2 = A ∧ 0 < m.row.length ∨ w.heap.size ≤ a.block)) (fun _ i _ => os.length - (intOf i).toNat)
          case atStart => exact ⟨0, A, ca, by omega, rfl, Lib.hid T_19.out, Lib.hid K_18.out, Lib.hid Hpb_17.out, Lib.hid (Kd.R_nil _ _ _ _ _), Lib.hid (fun _ _ _ q hq => by cases hq), Lib.hid (fun _ _ hn => .inl ⟨rfl, hn⟩)⟩
          case round =>
            obtain ⟨k, A2, c2, hk, rfl, HT2, HK2, HP2, HR2, HFR, HGR⟩ := hrel
            have HO2 := Lib.hid (rt_opn HT.out HK2.out HO.out)
            by_cases hlt : k < os.length
            · have i0 : (0 : Int) ≤ (k : Int) := by omega
              have i1 : (k : Int) < (os.length : Int) := by omega
              obtain ⟨ab, e0, f0, f1, f2⟩ := at_Opn HO2.out hlt
              cases e0
              have hsn := opsL_snoc (rev := m.rev + 1) (o := os[k]) (os := os.take k) (l := m.row)
              rw [List.take_append_getElem hlt] at hsn
              have hsrt : Srt (opsL (m.rev + 1) (os.take k) m.row).1 := opsL_srt HOK.out.srt
              have hle := opsL_le (rev := m.rev + 1) (os := os.take k) (l := m.row)
              rw [List.length_take] at hle
              obtain ⟨RK, hRK⟩ : ∃ RK, (opsL (m.rev + 1) (os.take k) m.row).1 = RK := ⟨_, rfl⟩
              obtain ⟨EK, hEK⟩ : ∃ EK, (opsL (m.rev + 1) (os.take k) m.row).2 = EK := ⟨_, rfl⟩
              rw [hRK] at hsn hsrt hle HT2 HFR HGR
              rw [hEK] at hsn hle HR2
              obtain ⟨o, hx⟩ : ∃ o, os[k] = o := ⟨_, rfl⟩
              rw [hx] at f0 f1 f2 hsn
              have HX := Lib.hid hx
              have HSN := Lib.hid hsn
              have H1 := Lib.hid (opL_ref (rev := m.rev + 1) (o := o) hsrt)
              have H2 := Lib.hid (opL_evsR (rev := m.rev + 1) (o := o) (l := RK))
              have hRb : RK.length ≤ 950000000 ∧ EK.length ≤ 8 := by omega
              clear hx hsn hsrt hRK hEK hle
              have z0 := (blk_cell HP2.out 0).trans rfl
              have z1 := (blk_cell HP2.out 1).trans rfl
              go_wp2_with fail
              clear z0 z1
              clear f0 f1 f2
              obtain ⟨ob, hob⟩ : ∃ X, X = wr.heap.size := ⟨_, rfl⟩
              try rw [← hob]
              have Lob := Lib.hid (show w.heap.size ≤ ob from hob ▸ HK2.out.size)
              have hb : Below wr.heap.size wr (wr.alloc (.cells #[.bool o.del, .string o.key, .string o.val] 85)) := below_alloc (Below.refl _ _) _
              have hN : (wr.alloc (.cells #[.bool o.del, .string o.key, .string o.val] 85)).heap[ob]? = some (.cells #[.bool o.del, .string o.key, .string o.val] 85 (0, 0)) := hob ▸ heap_alloc_new wr (.cells #[.bool o.del, .string o.key, .string o.val] 85)
              clear hob
              generalize wr.alloc (.cells #[.bool o.del, .string o.key, .string o.val] 85) = w4 at *
              have T_20 := Lib.hid (HT2.out.below hb)
              have K_21 := Lib.hid (HK2.out.then_below hb)
              have Co_22 := Lib.hid (Kd.C_below HO2.out hb)
              have Hpb_23 := Lib.hid ((hb.block _ (blk_lt HP2.out)).trans HP2.out)
              have Rv_24 := Lib.hid (Kd.R_below HR2.out hb)
              clear hb
              have Hob_25 := Lib.hid (hN)
              clear hN
              have hcall := getR_any b ⟨RK, m.rev + 1, m.low, m.hap⟩ A2 c2 B cb w4 T_20.out (by show RK.length ≤ _; omega) o.key
              try dsimp only at hcall
              obtain ⟨Y, hY⟩ : ∃ Y, getD o.key RK = Y := ⟨_, rfl⟩
              obtain ⟨bs, hbs⟩ : ∃ bs, (getL o.key RK).isSome = bs := ⟨_, rfl⟩
              rw [hY, hbs] at hcall
              have HY := Lib.hid hY
              have HBS := Lib.hid hbs
              have HCL := Lib.hid hcall
              clear hcall hY hbs
              refine HCL.out.mono ?_
              rintro e w5 ⟨rfl, hb⟩
              have T_26 := Lib.hid (T_20.out.below hb)
              have K_27 := Lib.hid (K_21.out.then_below hb)
              have Co_28 := Lib.hid (Kd.C_below Co_22.out hb)
              have Hpb_29 := Lib.hid ((hb.block _ (blk_lt Hpb_23.out)).trans Hpb_23.out)
              have Hob_30 := Lib.hid ((hb.block _ (blk_lt Hob_25.out)).trans Hob_25.out)
              have Rv_31 := Lib.hid (Kd.R_below Rv_24.out hb)
              clear hb
              clear HCL
              simp only [entV]
              have x0 := (blk_cell Hob_30.out 0).trans rfl
              have x1 := (blk_cell Hob_30.out 1).trans rfl
              have x2 := (blk_cell Hob_30.out 2).trans rfl
              have xx1 := (cell_alloc2 w5 (.cells #[.string Y.key, .string Y.val, .int .i64 Y.made, .int .i64 Y.mod] 62) (a := ⟨ob, 1, none⟩) (blk_lt Hob_30.out)).trans x1
              go_wp2_with fail
              clear x0 x1 x2
              clear xx1
              obtain ⟨wb, hwb⟩ : ∃ X, X = w5.heap.size := ⟨_, rfl⟩
              try rw [← hwb]
              have Lwb := Lib.hid (show w.heap.size ≤ wb from hwb ▸ K_27.out.size)
              have hb : Below w5.heap.size w5 (w5.alloc (.cells #[.string Y.key, .string Y.val, .int .i64 Y.made, .int .i64 Y.mod] 62)) := below_alloc (Below.refl _ _) _
              have hN : (w5.alloc (.cells #[.string Y.key, .string Y.val, .int .i64 Y.made, .int .i64 Y.mod] 62)).heap[wb]? = some (.cells #[.string Y.key, .string Y.val, .int .i64 Y.made, .int .i64 Y.mod] 62 (0, 0)) := hwb ▸ heap_alloc_new w5 (.cells #[.string Y.key, .string Y.val, .int .i64 Y.made, .int .i64 Y.mod] 62)
              clear hwb
              generalize w5.alloc (.cells #[.string Y.key, .string Y.val, .int .i64 Y.made, .int .i64 Y.mod] 62) = w6 at *
              have T_32 := Lib.hid (T_26.out.below hb)
              have K_33 := Lib.hid (K_27.out.then_below hb)
              have Co_34 := Lib.hid (Kd.C_below Co_28.out hb)
              have Hpb_35 := Lib.hid ((hb.block _ (blk_lt Hpb_29.out)).trans Hpb_29.out)
              have Hob_36 := Lib.hid ((hb.block _ (blk_lt Hob_30.out)).trans Hob_30.out)
              have Rv_37 := Lib.hid (Kd.R_below Rv_31.out hb)
              clear hb
              have Hwb_38 := Lib.hid (hN)
              clear hN
              refine (dropR_any b ⟨RK, m.rev + 1, m.low, m.hap⟩ A2 c2 B cb w6 T_32.out (by show RK.length ≤ _; omega) o.key).mono ?_
              rintro e w7 ⟨bb, A5, c5, rfl, hA, hK, hF⟩
              have hF5 : ∀ a, A5 = some a → 0 < (delL o.key RK).length → w6.heap.size ≤ a.block := hF
              have HF5 := Lib.hid hF5
              clear hF hF5
              have HVL := Lib.hid (show ∀ q, u7.ownBlock = some q → q < w6.heap.size from fun q e => by (obtain ⟨_, h⟩ := Kd.R_typed Rv_37.out q e; exact blk_lt h))
              have F5 := Lib.hid (show ∀ a, A5 = some a → 0 < (delL o.key RK).length → ∀ q, u7.ownBlock = some q → a.block ≠ q from fun a ha hn q hq e => by (have h1 := HF5.out a ha hn; have h2 := HVL.out q hq; omega))
              have G5 := Lib.hid (show ∀ a, A5 = some a → 0 < (delL o.key RK).length → A5 = A ∧ 0 < m.row.length ∨ w.heap.size ≤ a.block from fun a ha hn => .inr (Nat.le_trans K_33.out.size (HF5.out a ha hn)))
              clear HVL HF5
              have Co_39 := Lib.hid (rt_opn T_32.out hK Co_34.out)
              have Hpb_40 := Lib.hid (hK.blk Hpb_35.out (far_type T_32.out.blk Hpb_35.out (by decide)))
              have Hob_41 := Lib.hid (hK.blk Hob_36.out (far_type T_32.out.blk Hob_36.out (by decide)))
              have Hwb_42 := Lib.hid (hK.blk Hwb_38.out (far_type T_32.out.blk Hwb_38.out (by decide)))
              have Rv_43 := Lib.hid (R_kb Rv_37.out hK lb)
              have K_44 := Lib.hid (K_33.out.trans hK)
              have T_45 := Lib.hid (hA)
              clear hA hK
              have hdn : (delL o.key RK).length ≤ 950000000 := Nat.le_trans del_leN hRb.1
              cases hdl : o.del
              · have HDL := Lib.hid hdl
                clear hdl
                cases bs
                · have x0 := (blk_cell Hob_41.out 0).trans rfl
                  rw [HDL.out] at x0
                  go_wp2_with fail
                  clear x0
                  have hSB := Lib.hid (show ∀ W, Below w7.heap.size w7 W → (fun W => W.cell? ⟨b, 0, none⟩ = some (.slice A5 (delL o.key RK).length c5) ∧ W.cell? ⟨b, 1, none⟩ = some (.int .i64 (m.rev + 1)) ∧ W.cell? ⟨b, 2, none⟩ = some (.int .i64 m.low) ∧ W.cell? ⟨b, 3, none⟩ = some (.slice B m.hap.length cb) ∧ W.cell? ⟨ob, 0, none⟩ = some (.bool o.del) ∧ W.cell? ⟨ob, 1, none⟩ = some (.string o.key) ∧ W.cell? ⟨ob, 2, none⟩ = some (.string o.val)) W from fun W hW => ⟨(hW.cell (p := ⟨b, 0, none⟩) (blk_lt T_45.out.blk)).trans ((blk_cell T_45.out.blk 0).trans rfl), (hW.cell (p := ⟨b, 1, none⟩) (blk_lt T_45.out.blk)).trans ((blk_cell T_45.out.blk 1).trans rfl), (hW.cell (p := ⟨b, 2, none⟩) (blk_lt T_45.out.blk)).trans ((blk_cell T_45.out.blk 2).trans rfl), (hW.cell (p := ⟨b, 3, none⟩) (blk_lt T_45.out.blk)).trans ((blk_cell T_45.out.blk 3).trans rfl), (hW.cell (p := ⟨ob, 0, none⟩) (blk_lt Hob_41.out)).trans ((blk_cell Hob_41.out 0).trans rfl), (hW.cell (p := ⟨ob, 1, none⟩) (blk_lt Hob_41.out)).trans ((blk_cell Hob_41.out 1).trans rfl), (hW.cell (p := ⟨ob, 2, none⟩) (blk_lt Hob_41.out)).trans ((blk_cell Hob_41.out 2).trans rfl)⟩)
                  have hB0 := Lib.hid (Below.refl w7.heap.size w7)
                  have hB1 := Lib.hid (show Below w7.heap.size w7 w7.drew from below_drew hB0.out)
                  refine wp_region_noPanic ?_
                  refine wp_region_held_drew (S := fun W => W.cell? ⟨b, 0, none⟩ = some (.slice A5 (delL o.key RK).length c5) ∧ W.cell? ⟨b, 1, none⟩ = some (.int .i64 (m.rev + 1)) ∧ W.cell? ⟨b, 2, none⟩ = some (.int .i64 m.low) ∧ W.cell? ⟨b, 3, none⟩ = some (.slice B m.hap.length cb) ∧ W.cell? ⟨ob, 0, none⟩ = some (.bool o.del) ∧ W.cell? ⟨ob, 1, none⟩ = some (.string o.key) ∧ W.cell? ⟨ob, 2, none⟩ = some (.string o.val)) (by kernel_rfl) (hSB.out _ hB1.out) (fun hHeld => ?_)
                  refine wTake 0 ?_
                  refine wTake 1 ?_
                  refine wTake 2 ?_
                  refine wTake 3 ?_
                  refine wTake 4 ?_
                  refine wTake 5 ?_
                  refine wTake 6 ?_
                  refine wTake 7 ?_
                  refine wTake 8 ?_
                  refine wTake 9 ?_
                  refine wTake 10 ?_
                  refine wTake 11 ?_
                  refine wTake 12 ?_
                  try simp only [Act.put, List.setIfInBounds_toArray, List.set_cons_zero, List.set_cons_succ]
                  refine wpAnyH_ready (rs := [13]) (by kernel_rfl) (by simp) (AllReadyH.cons rfl (fun K hK => ?_) AllReadyH.nil)
                  go_simp
                  obtain ⟨yb, hyb⟩ : ∃ X, X = w7.drew.heap.size := ⟨_, rfl⟩
                  go_wp2_with fail
                  have eyb : w7.heap.size = yb := hyb.symm
                  rw [eyb]
                  have lyb : w7.heap.size ≤ yb := by rw [hyb]; exact hB1.out.size
                  have hB2 := Lib.hid (show Below w7.heap.size w7 (w7.alloc (.cells #[.string ⟨#[]⟩, .string ⟨#[]⟩, .int .i64 0, .int .i64 0] 62)).drew from below_alloc hB1.out (.cells #[.string ⟨#[]⟩, .string ⟨#[]⟩, .int .i64 0, .int .i64 0] 62))
                  have Hyb_2 := Lib.hid (show (w7.alloc (.cells #[.string ⟨#[]⟩, .string ⟨#[]⟩, .int .i64 0, .int .i64 0] 62)).drew.heap[yb]? = some (.cells #[.string ⟨#[]⟩, .string ⟨#[]⟩, .int .i64 0, .int .i64 0] 62 (0, 0)) from hyb ▸ heap_alloc_new w7.drew (.cells #[.string ⟨#[]⟩, .string ⟨#[]⟩, .int .i64 0, .int .i64 0] 62))
                  clear eyb hyb
                  generalize (w7.alloc (.cells #[.string ⟨#[]⟩, .string ⟨#[]⟩, .int .i64 0, .int .i64 0] 62)).drew = x2 at *
                  refine hK.out _ _ (hSB.out _ hB2.out) (fun hHeld => ?_)
                  clear hK K
                  try simp only [Act.put, List.setIfInBounds_toArray, List.set_cons_zero, List.set_cons_succ]
                  refine wpAnyH_ready (rs := [14]) (by kernel_rfl) (by simp) (AllReadyH.cons rfl (fun K hK => ?_) AllReadyH.nil)
                  have z0 := blk_cell Hyb_2.out 0
                  have y0 := blk_frozen Hyb_2.out 0
                  have z1 := blk_cell Hyb_2.out 1
                  have y1 := blk_frozen Hyb_2.out 1
                  have z2 := blk_cell Hyb_2.out 2
                  have y2 := blk_frozen Hyb_2.out 2
                  have z3 := blk_cell Hyb_2.out 3
                  have y3 := blk_frozen Hyb_2.out 3
                  simp only [List.getElem?_toArray, List.getElem?_cons_zero, List.getElem?_cons_succ] at z0 z1 z2 z3
                  go_simp
                  clear z0 y0 z1 y1 z2 y2 z3 y3
                  have hB3 := Lib.hid (show Below w7.heap.size w7 ((((x2.setCell ⟨yb, 0, none⟩ (.string o.key)).setCell ⟨yb, 1, none⟩ (.string o.val)).setCell ⟨yb, 2, none⟩ (.int .i64 (m.rev + 1))).setCell ⟨yb, 3, none⟩ (.int .i64 (m.rev + 1))) from ((((hB2.out.setCell (p := ⟨yb, 0, none⟩) lyb (.string o.key)).setCell (p := ⟨yb, 1, none⟩) lyb (.string o.val)).setCell (p := ⟨yb, 2, none⟩) lyb (.int .i64 (m.rev + 1))).setCell (p := ⟨yb, 3, none⟩) lyb (.int .i64 (m.rev + 1))))
                  have Hyb_3 := Lib.hid (show ((((x2.setCell ⟨yb, 0, none⟩ (.string o.key)).setCell ⟨yb, 1, none⟩ (.string o.val)).setCell ⟨yb, 2, none⟩ (.int .i64 (m.rev + 1))).setCell ⟨yb, 3, none⟩ (.int .i64 (m.rev + 1))).heap[yb]? = some (.cells #[.string o.key, .string o.val, .int .i64 (m.rev + 1), .int .i64 (m.rev + 1)] 62 (0, 0)) from (blk_put (cs := #[.string o.key, .string o.val, .int .i64 (m.rev + 1), .int .i64 0]) (blk_put (cs := #[.string o.key, .string o.val, .int .i64 0, .int .i64 0]) (blk_put (cs := #[.string o.key, .string ⟨#[]⟩, .int .i64 0, .int .i64 0]) (blk_put (cs := #[.string ⟨#[]⟩, .string ⟨#[]⟩, .int .i64 0, .int .i64 0]) Hyb_2.out 0 (.string o.key) rfl) 1 (.string o.val) rfl) 2 (.int .i64 (m.rev + 1)) rfl) 3 (.int .i64 (m.rev + 1)) rfl))
                  generalize ((((x2.setCell ⟨yb, 0, none⟩ (.string o.key)).setCell ⟨yb, 1, none⟩ (.string o.val)).setCell ⟨yb, 2, none⟩ (.int .i64 (m.rev + 1))).setCell ⟨yb, 3, none⟩ (.int .i64 (m.rev + 1))) = x3 at *
                  refine hK.out _ _ (hSB.out _ hB3.out) (fun hHeld => ?_)
                  clear hK K
                  try simp only [Act.put, List.setIfInBounds_toArray, List.set_cons_zero, List.set_cons_succ]
                  refine wpAnyH_done (by kernel_rfl) ?_ _
                  refine NoPanic.normal ?_
                  clear hHeld
                  have T_46 := Lib.hid (T_45.out.below hB3.out)
                  have K_47 := Lib.hid (K_44.out.then_below hB3.out)
                  have Co_48 := Lib.hid (Kd.C_below Co_39.out hB3.out)
                  have Hpb_49 := Lib.hid ((hB3.out.block _ (blk_lt Hpb_40.out)).trans Hpb_40.out)
                  have Hob_50 := Lib.hid ((hB3.out.block _ (blk_lt Hob_41.out)).trans Hob_41.out)
                  have Hwb_51 := Lib.hid ((hB3.out.block _ (blk_lt Hwb_42.out)).trans Hwb_42.out)
                  have Rv_52 := Lib.hid (Kd.R_below Rv_43.out hB3.out)
                  clear hSB hB0
                  have q0 := (blk_cell Hyb_3.out 0).trans rfl
                  have q1 := (blk_cell Hyb_3.out 1).trans rfl
                  have q2 := (blk_cell Hyb_3.out 2).trans rfl
                  have q3 := (blk_cell Hyb_3.out 3).trans rfl
                  go_wp2_with fail
                  clear q0 q1 q2 q3
                  refine (putR_any b ⟨delL o.key RK, m.rev + 1, m.low, m.hap⟩ A5 c5 B cb x3 T_46.out (by show (delL o.key RK).length ≤ _; omega) ⟨o.key, o.val, m.rev + 1, m.rev + 1⟩).mono ?_
                  rintro e w8 ⟨v6, A6, c6, rfl, hA, hK, hF⟩
                  have F6 := Lib.hid (show ∀ a, A6 = some a → 0 < (putR ⟨o.key, o.val, m.rev + 1, m.rev + 1⟩ false (delL o.key RK)).length → ∀ q, u7.ownBlock = some q → a.block ≠ q from fun a ha hn q hq e => by (have h1 := hF a ha hn; obtain ⟨_, h⟩ := Kd.R_typed Rv_52.out q hq; have h2 := blk_lt h; omega))
                  have G6 := Lib.hid (show ∀ a, A6 = some a → 0 < (putR ⟨o.key, o.val, m.rev + 1, m.rev + 1⟩ false (delL o.key RK)).length → A6 = A ∧ 0 < m.row.length ∨ w.heap.size ≤ a.block from fun a ha hn => .inr (Nat.le_trans K_47.out.size (hF a ha hn)))
                  clear hF
                  have Co_53 := Lib.hid (rt_opn T_46.out hK Co_48.out)
                  have Hpb_54 := Lib.hid (hK.blk Hpb_49.out (far_type T_46.out.blk Hpb_49.out (by decide)))
                  have Hob_55 := Lib.hid (hK.blk Hob_50.out (far_type T_46.out.blk Hob_50.out (by decide)))
                  have Hwb_56 := Lib.hid (hK.blk Hwb_51.out (far_type T_46.out.blk Hwb_51.out (by decide)))
                  have Hyb_57 := Lib.hid (hK.blk Hyb_3.out (far_type T_46.out.blk Hyb_3.out (by decide)))
                  have Rv_58 := Lib.hid (R_kb Rv_52.out hK lb)
                  have K_59 := Lib.hid (K_47.out.trans hK)
                  have T_60 := Lib.hid (hA)
                  clear hA hK
                  have hes : (opsL (m.rev + 1) (os.take (k + 1)) m.row) = ((putR ⟨o.key, o.val, m.rev + 1, m.rev + 1⟩ false (delL o.key RK)), EK ++ [⟨m.rev + 1, o.del, o.key, o.val⟩]) := by (rw [HSN.out, H1.out, H2.out, HDL.out, madeOf_none HBS.out]; simp)
                  have HES := Lib.hid hes
                  clear hes
                  go_wp2_with fail
                  refine wp_region_noPanic ?_
                  refine wp_region_held_drew (S := fun W : World => W.cell? ⟨b, 1, none⟩ = some (.int .i64 (m.rev + 1)) ∧ W.cell? ⟨ob, 0, none⟩ = some (.bool o.del) ∧ W.cell? ⟨ob, 1, none⟩ = some (.string o.key) ∧ W.cell? ⟨ob, 2, none⟩ = some (.string o.val)) (by kernel_rfl) (⟨(blk_cell (show w8.drew.heap[b]? = _ from T_60.out.blk) 1).trans rfl, (blk_cell (show w8.drew.heap[ob]? = _ from Hob_55.out) 0).trans rfl, (blk_cell (show w8.drew.heap[ob]? = _ from Hob_55.out) 1).trans rfl, (blk_cell (show w8.drew.heap[ob]? = _ from Hob_55.out) 2).trans rfl⟩) (fun hHeld => ?_)
                  refine wTake 0 ?_
                  refine wTake 1 ?_
                  refine wTake 2 ?_
                  refine wTake 3 ?_
                  refine wTake 4 ?_
                  refine wTake 5 ?_
                  refine wTake 6 ?_
                  refine wTake 7 ?_
                  refine wTake 8 ?_
                  refine wTake 9 ?_
                  refine wTake 10 ?_
                  refine wTake 11 ?_
                  try simp only [Act.put, List.setIfInBounds_toArray, List.set_cons_zero, List.set_cons_succ]
                  refine wpAnyH_ready (rs := [12]) (by kernel_rfl) (by simp) (AllReadyH.cons rfl (fun K hK => ?_) AllReadyH.nil)
                  go_simp
                  go_wp2_with fail
                  refine hK.out _ _ ⟨(blk_cell (blk_alloc (show w8.drew.heap[b]? = _ from T_60.out.blk) _) 1).trans rfl, (blk_cell (blk_alloc (show w8.drew.heap[ob]? = _ from Hob_55.out) _) 0).trans rfl, (blk_cell (blk_alloc (show w8.drew.heap[ob]? = _ from Hob_55.out) _) 1).trans rfl, (blk_cell (blk_alloc (show w8.drew.heap[ob]? = _ from Hob_55.out) _) 2).trans rfl⟩ (fun hHeld => ?_)
                  clear hK K
                  try simp only [Act.put, List.setIfInBounds_toArray, List.set_cons_zero, List.set_cons_succ]
                  refine wpAnyH_ready (rs := [13]) (by kernel_rfl) (by simp) (AllReadyH.cons rfl (fun K hK => ?_) AllReadyH.nil)
                  refine Kd.R_append_step kEvt (w0 := w8.drew) w.heap.size (by rfl) (.tmp 89) (.tmp 101) 54 60 (.agg #[.int .i64 0, .bool false, .string ⟨#[]⟩, .string ⟨#[]⟩]) 48 rfl Try.underlying54 infoEvt rfl (by decide) (by omega) u7 EK ⟨m.rev + 1, o.del, o.key, o.val⟩ [.int .i64 (m.rev + 1), .bool o.del, .string o.key, .string o.val] (fun _ => True) (fun _ => False) rfl rfl (kEvt_mkM _ _ _ _) (fun _ hk => hk.elim) (fun _ _ => trivial) (Kd.R_drew Rv_58.out) (Below.refl _ _) (show w.heap.size ≤ w8.heap.size from K_59.out.size) (by omega) ?_
                  intro v1 wz ho hb4 hg hO
                  have hrow : Kd.C kEnt wz A6 (putR ⟨o.key, o.val, m.rev + 1, m.rev + 1⟩ false (delL o.key RK)).length (putR ⟨o.key, o.val, m.rev + 1, m.rev + 1⟩ false (delL o.key RK)) := C_keepE T_60.out.row (fun a ha hn => hg.block _ (ent_lt T_60.out.row a ha hn) (fun e => F6.out a ha hn _ e.symm rfl))
                  have hhap : Kd.C kEvt wz B m.hap.length m.hap := C_keep T_60.out.hap (fun a ha hn => hb4.block _ (hap_lt HT.out.hap a ha hn))
                  have hbk : ∀ q, q < w.heap.size → wz.heap[q]? = w8.heap[q]? := fun q hq => hb4.block q hq
                  have T7 := Lib.hid (show Rt wz b ⟨(putR ⟨o.key, o.val, m.rev + 1, m.rev + 1⟩ false (delL o.key RK)), m.rev + 1, m.low, m.hap⟩ A6 c6 B cb from ⟨(hbk b lb).trans T_60.out.blk, hrow, hhap, T_60.out.cap⟩)
                  have K7 := Lib.hid (show Kb b w wz from Kb.grown (Kb.drew K_59.out) hg (fun q e => Kd.R_base Rv_58.out q e))
                  have HTY := Kd.R_typed (Kd.R_drew Rv_58.out)
                  have PB7 := Lib.hid (grown_far hg HTY (by decide) (show w8.drew.heap[pb]? = _ from Hpb_54.out))
                  have OB7 := grown_far hg HTY (by decide) (show w8.drew.heap[ob]? = _ from Hob_55.out)
                  have R7 := Lib.hid ho
                  have F7 := Lib.hid (show ∀ a, A6 = some a → 0 < (putR ⟨o.key, o.val, m.rev + 1, m.rev + 1⟩ false (delL o.key RK)).length → ∀ q, v1.ownBlock = some q → a.block ≠ q from fun a ha hn q hq => by (rcases hO with h | ⟨c, h, hc⟩; exact F6.out a ha hn q (h.symm.trans hq); have := ent_lt T_60.out.row a ha hn; rw [hq] at h; cases h; have hc2 : w8.heap.size ≤ _ := hc; omega))
                  clear ho hb4 hg hO hrow hhap hbk HTY
                  refine hK.out _ _ ⟨(blk_cell T7.out.blk 1).trans rfl, (blk_cell OB7 0).trans rfl, (blk_cell OB7 1).trans rfl, (blk_cell OB7 2).trans rfl⟩ (fun hHeld => ?_)
                  clear hK K
                  try simp only [Act.put, List.setIfInBounds_toArray, List.set_cons_zero, List.set_cons_succ]
                  refine wTake 14 ?_
                  try simp only [Act.put, List.setIfInBounds_toArray, List.set_cons_zero, List.set_cons_succ]
                  refine wpAnyH_done (by kernel_rfl) ?_ _
                  refine NoPanic.normal ?_
                  clear hHeld
                  go_wp2
                  go_roundw
                  case rel => exact ⟨k + 1, A6, c6, by omega, by go_num, by rw [HES.out]; exact T7, K7, PB7, by rw [HES.out]; exact R7, by rw [HES.out]; exact F7, by rw [HES.out]; exact G6⟩
                  case measure => simp [intOf]; omega
                · have x0 := (blk_cell Hob_41.out 0).trans rfl
                  rw [HDL.out] at x0
                  go_wp2_with fail
                  clear x0
                  have hSB := Lib.hid (show ∀ W, Below w7.heap.size w7 W → (fun W => W.cell? ⟨b, 0, none⟩ = some (.slice A5 (delL o.key RK).length c5) ∧ W.cell? ⟨b, 1, none⟩ = some (.int .i64 (m.rev + 1)) ∧ W.cell? ⟨b, 2, none⟩ = some (.int .i64 m.low) ∧ W.cell? ⟨b, 3, none⟩ = some (.slice B m.hap.length cb) ∧ W.cell? ⟨ob, 0, none⟩ = some (.bool o.del) ∧ W.cell? ⟨ob, 1, none⟩ = some (.string o.key) ∧ W.cell? ⟨ob, 2, none⟩ = some (.string o.val)) W from fun W hW => ⟨(hW.cell (p := ⟨b, 0, none⟩) (blk_lt T_45.out.blk)).trans ((blk_cell T_45.out.blk 0).trans rfl), (hW.cell (p := ⟨b, 1, none⟩) (blk_lt T_45.out.blk)).trans ((blk_cell T_45.out.blk 1).trans rfl), (hW.cell (p := ⟨b, 2, none⟩) (blk_lt T_45.out.blk)).trans ((blk_cell T_45.out.blk 2).trans rfl), (hW.cell (p := ⟨b, 3, none⟩) (blk_lt T_45.out.blk)).trans ((blk_cell T_45.out.blk 3).trans rfl), (hW.cell (p := ⟨ob, 0, none⟩) (blk_lt Hob_41.out)).trans ((blk_cell Hob_41.out 0).trans rfl), (hW.cell (p := ⟨ob, 1, none⟩) (blk_lt Hob_41.out)).trans ((blk_cell Hob_41.out 1).trans rfl), (hW.cell (p := ⟨ob, 2, none⟩) (blk_lt Hob_41.out)).trans ((blk_cell Hob_41.out 2).trans rfl)⟩)
                  have hB0 := Lib.hid (Below.refl w7.heap.size w7)
                  have hB1 := Lib.hid (show Below w7.heap.size w7 w7.drew from below_drew hB0.out)
                  refine wp_region_noPanic ?_
                  refine wp_region_held_drew (S := fun W => W.cell? ⟨b, 0, none⟩ = some (.slice A5 (delL o.key RK).length c5) ∧ W.cell? ⟨b, 1, none⟩ = some (.int .i64 (m.rev + 1)) ∧ W.cell? ⟨b, 2, none⟩ = some (.int .i64 m.low) ∧ W.cell? ⟨b, 3, none⟩ = some (.slice B m.hap.length cb) ∧ W.cell? ⟨ob, 0, none⟩ = some (.bool o.del) ∧ W.cell? ⟨ob, 1, none⟩ = some (.string o.key) ∧ W.cell? ⟨ob, 2, none⟩ = some (.string o.val)) (by kernel_rfl) (hSB.out _ hB1.out) (fun hHeld => ?_)
                  refine wTake 0 ?_
                  refine wTake 1 ?_
                  refine wTake 2 ?_
                  refine wTake 3 ?_
                  refine wTake 4 ?_
                  refine wTake 5 ?_
                  refine wTake 6 ?_
                  refine wTake 7 ?_
                  refine wTake 8 ?_
                  refine wTake 9 ?_
                  refine wTake 10 ?_
                  refine wTake 11 ?_
                  refine wTake 12 ?_
                  try simp only [Act.put, List.setIfInBounds_toArray, List.set_cons_zero, List.set_cons_succ]
                  refine wpAnyH_ready (rs := [13]) (by kernel_rfl) (by simp) (AllReadyH.cons rfl (fun K hK => ?_) AllReadyH.nil)
                  go_simp
                  obtain ⟨yb, hyb⟩ : ∃ X, X = w7.drew.heap.size := ⟨_, rfl⟩
                  go_wp2_with fail
                  have eyb : w7.heap.size = yb := hyb.symm
                  rw [eyb]
                  have lyb : w7.heap.size ≤ yb := by rw [hyb]; exact hB1.out.size
                  have hB2 := Lib.hid (show Below w7.heap.size w7 (w7.alloc (.cells #[.string ⟨#[]⟩, .string ⟨#[]⟩, .int .i64 0, .int .i64 0] 62)).drew from below_alloc hB1.out (.cells #[.string ⟨#[]⟩, .string ⟨#[]⟩, .int .i64 0, .int .i64 0] 62))
                  have Hyb_2 := Lib.hid (show (w7.alloc (.cells #[.string ⟨#[]⟩, .string ⟨#[]⟩, .int .i64 0, .int .i64 0] 62)).drew.heap[yb]? = some (.cells #[.string ⟨#[]⟩, .string ⟨#[]⟩, .int .i64 0, .int .i64 0] 62 (0, 0)) from hyb ▸ heap_alloc_new w7.drew (.cells #[.string ⟨#[]⟩, .string ⟨#[]⟩, .int .i64 0, .int .i64 0] 62))
                  clear eyb hyb
                  generalize (w7.alloc (.cells #[.string ⟨#[]⟩, .string ⟨#[]⟩, .int .i64 0, .int .i64 0] 62)).drew = x2 at *
                  refine hK.out _ _ (hSB.out _ hB2.out) (fun hHeld => ?_)
                  clear hK K
                  try simp only [Act.put, List.setIfInBounds_toArray, List.set_cons_zero, List.set_cons_succ]
                  refine wpAnyH_ready (rs := [14]) (by kernel_rfl) (by simp) (AllReadyH.cons rfl (fun K hK => ?_) AllReadyH.nil)
                  have z0 := blk_cell Hyb_2.out 0
                  have y0 := blk_frozen Hyb_2.out 0
                  have z1 := blk_cell Hyb_2.out 1
                  have y1 := blk_frozen Hyb_2.out 1
                  have z2 := blk_cell Hyb_2.out 2
                  have y2 := blk_frozen Hyb_2.out 2
                  have z3 := blk_cell Hyb_2.out 3
                  have y3 := blk_frozen Hyb_2.out 3
                  simp only [List.getElem?_toArray, List.getElem?_cons_zero, List.getElem?_cons_succ] at z0 z1 z2 z3
                  go_simp
                  clear z0 y0 z1 y1 z2 y2 z3 y3
                  have hB3 := Lib.hid (show Below w7.heap.size w7 ((((x2.setCell ⟨yb, 0, none⟩ (.string o.key)).setCell ⟨yb, 1, none⟩ (.string o.val)).setCell ⟨yb, 2, none⟩ (.int .i64 (m.rev + 1))).setCell ⟨yb, 3, none⟩ (.int .i64 (m.rev + 1))) from ((((hB2.out.setCell (p := ⟨yb, 0, none⟩) lyb (.string o.key)).setCell (p := ⟨yb, 1, none⟩) lyb (.string o.val)).setCell (p := ⟨yb, 2, none⟩) lyb (.int .i64 (m.rev + 1))).setCell (p := ⟨yb, 3, none⟩) lyb (.int .i64 (m.rev + 1))))
                  have Hyb_3 := Lib.hid (show ((((x2.setCell ⟨yb, 0, none⟩ (.string o.key)).setCell ⟨yb, 1, none⟩ (.string o.val)).setCell ⟨yb, 2, none⟩ (.int .i64 (m.rev + 1))).setCell ⟨yb, 3, none⟩ (.int .i64 (m.rev + 1))).heap[yb]? = some (.cells #[.string o.key, .string o.val, .int .i64 (m.rev + 1), .int .i64 (m.rev + 1)] 62 (0, 0)) from (blk_put (cs := #[.string o.key, .string o.val, .int .i64 (m.rev + 1), .int .i64 0]) (blk_put (cs := #[.string o.key, .string o.val, .int .i64 0, .int .i64 0]) (blk_put (cs := #[.string o.key, .string ⟨#[]⟩, .int .i64 0, .int .i64 0]) (blk_put (cs := #[.string ⟨#[]⟩, .string ⟨#[]⟩, .int .i64 0, .int .i64 0]) Hyb_2.out 0 (.string o.key) rfl) 1 (.string o.val) rfl) 2 (.int .i64 (m.rev + 1)) rfl) 3 (.int .i64 (m.rev + 1)) rfl))
                  generalize ((((x2.setCell ⟨yb, 0, none⟩ (.string o.key)).setCell ⟨yb, 1, none⟩ (.string o.val)).setCell ⟨yb, 2, none⟩ (.int .i64 (m.rev + 1))).setCell ⟨yb, 3, none⟩ (.int .i64 (m.rev + 1))) = x3 at *
                  refine hK.out _ _ (hSB.out _ hB3.out) (fun hHeld => ?_)
                  clear hK K
                  try simp only [Act.put, List.setIfInBounds_toArray, List.set_cons_zero, List.set_cons_succ]
                  refine wpAnyH_done (by kernel_rfl) ?_ _
                  refine NoPanic.normal ?_
                  clear hHeld
                  have HYM := Lib.hid (show (x3.setCell ⟨yb, 2, none⟩ (.int .i64 Y.made)).heap[yb]? = some (.cells #[.string o.key, .string o.val, .int .i64 Y.made, .int .i64 (m.rev + 1)] 62 (0, 0)) from blk_put (cs := #[.string o.key, .string o.val, .int .i64 (m.rev + 1), .int .i64 (m.rev + 1)]) Hyb_3.out 2 (.int .i64 Y.made) rfl)
                  have hbM := Lib.hid (show Below w7.heap.size w7 (x3.setCell ⟨yb, 2, none⟩ (.int .i64 Y.made)) from hB3.out.setCell (p := ⟨yb, 2, none⟩) lyb (.int .i64 Y.made))
                  have x0 := (blk_cell ((hB3.out.block _ (blk_lt Hwb_42.out)).trans Hwb_42.out) 0).trans rfl
                  have x1 := (blk_cell ((hB3.out.block _ (blk_lt Hwb_42.out)).trans Hwb_42.out) 1).trans rfl
                  have x2 := (blk_cell ((hB3.out.block _ (blk_lt Hwb_42.out)).trans Hwb_42.out) 2).trans rfl
                  have x3 := (blk_cell ((hB3.out.block _ (blk_lt Hwb_42.out)).trans Hwb_42.out) 3).trans rfl
                  have y0 := (blk_cell Hyb_3.out 0).trans rfl
                  have y1 := (blk_cell Hyb_3.out 1).trans rfl
                  have y2 := (blk_cell Hyb_3.out 2).trans rfl
                  have y3 := (blk_cell Hyb_3.out 3).trans rfl
                  have yf := blk_frozen Hyb_3.out 2
                  have q0 := (blk_cell HYM.out 0).trans rfl
                  have q1 := (blk_cell HYM.out 1).trans rfl
                  have q2 := (blk_cell HYM.out 2).trans rfl
                  have q3 := (blk_cell HYM.out 3).trans rfl
                  go_wp2_with fail
                  clear x0 x1 x2 x3
                  clear y0 y1 y2 y3 yf
                  clear q0 q1 q2 q3
                  have hbM2 := hbM.out
                  have hyM := HYM.out
                  clear hbM HYM hSB hB0
                  generalize (x3.setCell ⟨yb, 2, none⟩ (.int .i64 Y.made)) = wm at *
                  have T_46 := Lib.hid (T_45.out.below hbM2)
                  have K_47 := Lib.hid (K_44.out.then_below hbM2)
                  have Co_48 := Lib.hid (Kd.C_below Co_39.out hbM2)
                  have Hpb_49 := Lib.hid ((hbM2.block _ (blk_lt Hpb_40.out)).trans Hpb_40.out)
                  have Hob_50 := Lib.hid ((hbM2.block _ (blk_lt Hob_41.out)).trans Hob_41.out)
                  have Hwb_51 := Lib.hid ((hbM2.block _ (blk_lt Hwb_42.out)).trans Hwb_42.out)
                  have Rv_52 := Lib.hid (Kd.R_below Rv_43.out hbM2)
                  clear hbM2
                  have Hyb_53 := Lib.hid (hyM)
                  clear hyM
                  refine (putR_any b ⟨delL o.key RK, m.rev + 1, m.low, m.hap⟩ A5 c5 B cb wm T_46.out (by show (delL o.key RK).length ≤ _; omega) ⟨o.key, o.val, Y.made, m.rev + 1⟩).mono ?_
                  rintro e w8 ⟨v6, A6, c6, rfl, hA, hK, hF⟩
                  have F6 := Lib.hid (show ∀ a, A6 = some a → 0 < (putR ⟨o.key, o.val, Y.made, m.rev + 1⟩ false (delL o.key RK)).length → ∀ q, u7.ownBlock = some q → a.block ≠ q from fun a ha hn q hq e => by (have h1 := hF a ha hn; obtain ⟨_, h⟩ := Kd.R_typed Rv_52.out q hq; have h2 := blk_lt h; omega))
                  have G6 := Lib.hid (show ∀ a, A6 = some a → 0 < (putR ⟨o.key, o.val, Y.made, m.rev + 1⟩ false (delL o.key RK)).length → A6 = A ∧ 0 < m.row.length ∨ w.heap.size ≤ a.block from fun a ha hn => .inr (Nat.le_trans K_47.out.size (hF a ha hn)))
                  clear hF
                  have Co_54 := Lib.hid (rt_opn T_46.out hK Co_48.out)
                  have Hpb_55 := Lib.hid (hK.blk Hpb_49.out (far_type T_46.out.blk Hpb_49.out (by decide)))
                  have Hob_56 := Lib.hid (hK.blk Hob_50.out (far_type T_46.out.blk Hob_50.out (by decide)))
                  have Hwb_57 := Lib.hid (hK.blk Hwb_51.out (far_type T_46.out.blk Hwb_51.out (by decide)))
                  have Hyb_58 := Lib.hid (hK.blk Hyb_53.out (far_type T_46.out.blk Hyb_53.out (by decide)))
                  have Rv_59 := Lib.hid (R_kb Rv_52.out hK lb)
                  have K_60 := Lib.hid (K_47.out.trans hK)
                  have T_61 := Lib.hid (hA)
                  clear hA hK
                  have hes : (opsL (m.rev + 1) (os.take (k + 1)) m.row) = ((putR ⟨o.key, o.val, Y.made, m.rev + 1⟩ false (delL o.key RK)), EK ++ [⟨m.rev + 1, o.del, o.key, o.val⟩]) := by (rw [HSN.out, H1.out, H2.out, HDL.out, madeOf_some HBS.out, HY.out]; simp)
                  have HES := Lib.hid hes
                  clear hes
                  go_wp2_with fail
                  refine wp_region_noPanic ?_
                  refine wp_region_held_drew (S := fun W : World => W.cell? ⟨b, 1, none⟩ = some (.int .i64 (m.rev + 1)) ∧ W.cell? ⟨ob, 0, none⟩ = some (.bool o.del) ∧ W.cell? ⟨ob, 1, none⟩ = some (.string o.key) ∧ W.cell? ⟨ob, 2, none⟩ = some (.string o.val)) (by kernel_rfl) (⟨(blk_cell (show w8.drew.heap[b]? = _ from T_61.out.blk) 1).trans rfl, (blk_cell (show w8.drew.heap[ob]? = _ from Hob_56.out) 0).trans rfl, (blk_cell (show w8.drew.heap[ob]? = _ from Hob_56.out) 1).trans rfl, (blk_cell (show w8.drew.heap[ob]? = _ from Hob_56.out) 2).trans rfl⟩) (fun hHeld => ?_)
                  refine wTake 0 ?_
                  refine wTake 1 ?_
                  refine wTake 2 ?_
                  refine wTake 3 ?_
                  refine wTake 4 ?_
                  refine wTake 5 ?_
                  refine wTake 6 ?_
                  refine wTake 7 ?_
                  refine wTake 8 ?_
                  refine wTake 9 ?_
                  refine wTake 10 ?_
                  refine wTake 11 ?_
                  try simp only [Act.put, List.setIfInBounds_toArray, List.set_cons_zero, List.set_cons_succ]
                  refine wpAnyH_ready (rs := [12]) (by kernel_rfl) (by simp) (AllReadyH.cons rfl (fun K hK => ?_) AllReadyH.nil)
                  go_simp
                  go_wp2_with fail
                  refine hK.out _ _ ⟨(blk_cell (blk_alloc (show w8.drew.heap[b]? = _ from T_61.out.blk) _) 1).trans rfl, (blk_cell (blk_alloc (show w8.drew.heap[ob]? = _ from Hob_56.out) _) 0).trans rfl, (blk_cell (blk_alloc (show w8.drew.heap[ob]? = _ from Hob_56.out) _) 1).trans rfl, (blk_cell (blk_alloc (show w8.drew.heap[ob]? = _ from Hob_56.out) _) 2).trans rfl⟩ (fun hHeld => ?_)
                  clear hK K
                  try simp only [Act.put, List.setIfInBounds_toArray, List.set_cons_zero, List.set_cons_succ]
                  refine wpAnyH_ready (rs := [13]) (by kernel_rfl) (by simp) (AllReadyH.cons rfl (fun K hK => ?_) AllReadyH.nil)
                  refine Kd.R_append_step kEvt (w0 := w8.drew) w.heap.size (by rfl) (.tmp 89) (.tmp 101) 54 60 (.agg #[.int .i64 0, .bool false, .string ⟨#[]⟩, .string ⟨#[]⟩]) 48 rfl Try.underlying54 infoEvt rfl (by decide) (by omega) u7 EK ⟨m.rev + 1, o.del, o.key, o.val⟩ [.int .i64 (m.rev + 1), .bool o.del, .string o.key, .string o.val] (fun _ => True) (fun _ => False) rfl rfl (kEvt_mkM _ _ _ _) (fun _ hk => hk.elim) (fun _ _ => trivial) (Kd.R_drew Rv_59.out) (Below.refl _ _) (show w.heap.size ≤ w8.heap.size from K_60.out.size) (by omega) ?_
                  intro v1 wz ho hb4 hg hO
                  have hrow : Kd.C kEnt wz A6 (putR ⟨o.key, o.val, Y.made, m.rev + 1⟩ false (delL o.key RK)).length (putR ⟨o.key, o.val, Y.made, m.rev + 1⟩ false (delL o.key RK)) := C_keepE T_61.out.row (fun a ha hn => hg.block _ (ent_lt T_61.out.row a ha hn) (fun e => F6.out a ha hn _ e.symm rfl))
                  have hhap : Kd.C kEvt wz B m.hap.length m.hap := C_keep T_61.out.hap (fun a ha hn => hb4.block _ (hap_lt HT.out.hap a ha hn))
                  have hbk : ∀ q, q < w.heap.size → wz.heap[q]? = w8.heap[q]? := fun q hq => hb4.block q hq
                  have T7 := Lib.hid (show Rt wz b ⟨(putR ⟨o.key, o.val, Y.made, m.rev + 1⟩ false (delL o.key RK)), m.rev + 1, m.low, m.hap⟩ A6 c6 B cb from ⟨(hbk b lb).trans T_61.out.blk, hrow, hhap, T_61.out.cap⟩)
                  have K7 := Lib.hid (show Kb b w wz from Kb.grown (Kb.drew K_60.out) hg (fun q e => Kd.R_base Rv_59.out q e))
                  have HTY := Kd.R_typed (Kd.R_drew Rv_59.out)
                  have PB7 := Lib.hid (grown_far hg HTY (by decide) (show w8.drew.heap[pb]? = _ from Hpb_55.out))
                  have OB7 := grown_far hg HTY (by decide) (show w8.drew.heap[ob]? = _ from Hob_56.out)
                  have R7 := Lib.hid ho
                  have F7 := Lib.hid (show ∀ a, A6 = some a → 0 < (putR ⟨o.key, o.val, Y.made, m.rev + 1⟩ false (delL o.key RK)).length → ∀ q, v1.ownBlock = some q → a.block ≠ q from fun a ha hn q hq => by (rcases hO with h | ⟨c, h, hc⟩; exact F6.out a ha hn q (h.symm.trans hq); have := ent_lt T_61.out.row a ha hn; rw [hq] at h; cases h; have hc2 : w8.heap.size ≤ _ := hc; omega))
                  clear ho hb4 hg hO hrow hhap hbk HTY
                  refine hK.out _ _ ⟨(blk_cell T7.out.blk 1).trans rfl, (blk_cell OB7 0).trans rfl, (blk_cell OB7 1).trans rfl, (blk_cell OB7 2).trans rfl⟩ (fun hHeld => ?_)
                  clear hK K
                  try simp only [Act.put, List.setIfInBounds_toArray, List.set_cons_zero, List.set_cons_succ]
                  refine wTake 14 ?_
                  try simp only [Act.put, List.setIfInBounds_toArray, List.set_cons_zero, List.set_cons_succ]
                  refine wpAnyH_done (by kernel_rfl) ?_ _
                  refine NoPanic.normal ?_
                  clear hHeld
                  go_wp2
                  go_roundw
                  case rel => exact ⟨k + 1, A6, c6, by omega, by go_num, by rw [HES.out]; exact T7, K7, PB7, by rw [HES.out]; exact R7, by rw [HES.out]; exact F7, by rw [HES.out]; exact G6⟩
                  case measure => simp [intOf]; omega
              · have HDL := Lib.hid hdl
                clear hdl
                cases bs
                · have x0 := (blk_cell Hob_41.out 0).trans rfl
                  rw [HDL.out] at x0
                  have hes : (opsL (m.rev + 1) (os.take (k + 1)) m.row) = (delL o.key RK, EK) := by (rw [HSN.out, H1.out, H2.out, HDL.out, HBS.out]; simp)
                  have HES := Lib.hid hes
                  clear hes
                  go_wp2
                  go_roundw
                  case rel => exact ⟨k + 1, A5, c5, by omega, by go_num, by rw [HES.out]; exact Lib.hid T_45.out, Lib.hid K_44.out, Lib.hid Hpb_40.out, by rw [HES.out]; exact Lib.hid Rv_43.out, by rw [HES.out]; exact F5, by rw [HES.out]; exact G5⟩
                  case measure => simp [intOf]; omega
                · have x0 := (blk_cell Hob_41.out 0).trans rfl
                  have x1 := (blk_cell Hob_41.out 1).trans rfl
                  have x2 := (blk_cell Hob_41.out 2).trans rfl
                  rw [HDL.out] at x0
                  have hes : (opsL (m.rev + 1) (os.take (k + 1)) m.row) = (delL o.key RK, EK ++ [⟨m.rev + 1, o.del, o.key, o.val⟩]) := by (rw [HSN.out, H1.out, H2.out, HDL.out, HBS.out]; simp)
                  have HES := Lib.hid hes
                  clear hes
                  go_wp2_with fail
                  clear x0 x1 x2
                  go_wp2_with fail
                  refine wp_region_noPanic ?_
                  refine wp_region_held_drew (S := fun W : World => W.cell? ⟨b, 1, none⟩ = some (.int .i64 (m.rev + 1)) ∧ W.cell? ⟨ob, 0, none⟩ = some (.bool o.del) ∧ W.cell? ⟨ob, 1, none⟩ = some (.string o.key) ∧ W.cell? ⟨ob, 2, none⟩ = some (.string o.val)) (by kernel_rfl) (⟨(blk_cell (show w7.drew.heap[b]? = _ from T_45.out.blk) 1).trans rfl, (blk_cell (show w7.drew.heap[ob]? = _ from Hob_41.out) 0).trans rfl, (blk_cell (show w7.drew.heap[ob]? = _ from Hob_41.out) 1).trans rfl, (blk_cell (show w7.drew.heap[ob]? = _ from Hob_41.out) 2).trans rfl⟩) (fun hHeld => ?_)
                  refine wTake 0 ?_
                  refine wTake 1 ?_
                  refine wTake 2 ?_
                  refine wTake 3 ?_
                  refine wTake 4 ?_
                  refine wTake 5 ?_
                  refine wTake 6 ?_
                  refine wTake 7 ?_
                  refine wTake 8 ?_
                  refine wTake 9 ?_
                  refine wTake 10 ?_
                  refine wTake 11 ?_
                  try simp only [Act.put, List.setIfInBounds_toArray, List.set_cons_zero, List.set_cons_succ]
                  refine wpAnyH_ready (rs := [12]) (by kernel_rfl) (by simp) (AllReadyH.cons rfl (fun K hK => ?_) AllReadyH.nil)
                  go_simp
                  go_wp2_with fail
                  refine hK.out _ _ ⟨(blk_cell (blk_alloc (show w7.drew.heap[b]? = _ from T_45.out.blk) _) 1).trans rfl, (blk_cell (blk_alloc (show w7.drew.heap[ob]? = _ from Hob_41.out) _) 0).trans rfl, (blk_cell (blk_alloc (show w7.drew.heap[ob]? = _ from Hob_41.out) _) 1).trans rfl, (blk_cell (blk_alloc (show w7.drew.heap[ob]? = _ from Hob_41.out) _) 2).trans rfl⟩ (fun hHeld => ?_)
                  clear hK K
                  try simp only [Act.put, List.setIfInBounds_toArray, List.set_cons_zero, List.set_cons_succ]
                  refine wpAnyH_ready (rs := [13]) (by kernel_rfl) (by simp) (AllReadyH.cons rfl (fun K hK => ?_) AllReadyH.nil)
                  refine Kd.R_append_step kEvt (w0 := w7.drew) w.heap.size (by rfl) (.tmp 89) (.tmp 101) 54 60 (.agg #[.int .i64 0, .bool false, .string ⟨#[]⟩, .string ⟨#[]⟩]) 48 rfl Try.underlying54 infoEvt rfl (by decide) (by omega) u7 EK ⟨m.rev + 1, o.del, o.key, o.val⟩ [.int .i64 (m.rev + 1), .bool o.del, .string o.key, .string o.val] (fun _ => True) (fun _ => False) rfl rfl (kEvt_mkM _ _ _ _) (fun _ hk => hk.elim) (fun _ _ => trivial) (Kd.R_drew Rv_43.out) (Below.refl _ _) (show w.heap.size ≤ w7.heap.size from K_44.out.size) (by omega) ?_
                  intro v1 wz ho hb4 hg hO
                  have hrow : Kd.C kEnt wz A5 (delL o.key RK).length (delL o.key RK) := C_keepE T_45.out.row (fun a ha hn => hg.block _ (ent_lt T_45.out.row a ha hn) (fun e => F5.out a ha hn _ e.symm rfl))
                  have hhap : Kd.C kEvt wz B m.hap.length m.hap := C_keep T_45.out.hap (fun a ha hn => hb4.block _ (hap_lt HT.out.hap a ha hn))
                  have hbk : ∀ q, q < w.heap.size → wz.heap[q]? = w7.heap[q]? := fun q hq => hb4.block q hq
                  have T7 := Lib.hid (show Rt wz b ⟨(delL o.key RK), m.rev + 1, m.low, m.hap⟩ A5 c5 B cb from ⟨(hbk b lb).trans T_45.out.blk, hrow, hhap, T_45.out.cap⟩)
                  have K7 := Lib.hid (show Kb b w wz from Kb.grown (Kb.drew K_44.out) hg (fun q e => Kd.R_base Rv_43.out q e))
                  have HTY := Kd.R_typed (Kd.R_drew Rv_43.out)
                  have PB7 := Lib.hid (grown_far hg HTY (by decide) (show w7.drew.heap[pb]? = _ from Hpb_40.out))
                  have OB7 := grown_far hg HTY (by decide) (show w7.drew.heap[ob]? = _ from Hob_41.out)
                  have R7 := Lib.hid ho
                  have F7 := Lib.hid (show ∀ a, A5 = some a → 0 < (delL o.key RK).length → ∀ q, v1.ownBlock = some q → a.block ≠ q from fun a ha hn q hq => by (rcases hO with h | ⟨c, h, hc⟩; exact F5.out a ha hn q (h.symm.trans hq); have := ent_lt T_45.out.row a ha hn; rw [hq] at h; cases h; have hc2 : w7.heap.size ≤ _ := hc; omega))
                  clear ho hb4 hg hO hrow hhap hbk HTY
                  refine hK.out _ _ ⟨(blk_cell T7.out.blk 1).trans rfl, (blk_cell OB7 0).trans rfl, (blk_cell OB7 1).trans rfl, (blk_cell OB7 2).trans rfl⟩ (fun hHeld => ?_)
                  clear hK K
                  try simp only [Act.put, List.setIfInBounds_toArray, List.set_cons_zero, List.set_cons_succ]
                  refine wTake 14 ?_
                  try simp only [Act.put, List.setIfInBounds_toArray, List.set_cons_zero, List.set_cons_succ]
                  refine wpAnyH_done (by kernel_rfl) ?_ _
                  refine NoPanic.normal ?_
                  clear hHeld
                  go_wp2
                  go_roundw
                  case rel => exact ⟨k + 1, A5, c5, by omega, by go_num, by rw [HES.out]; exact T7, K7, PB7, by rw [HES.out]; exact R7, by rw [HES.out]; exact F7, by rw [HES.out]; exact G5⟩
                  case measure => simp [intOf]; omega
            · obtain rfl : k = os.length := by omega
              rw [List.take_length] at HT2 HR2
              clear HFR HO2 hlt
              rw [List.take_length] at HGR
              have hel := (opsL_le (rev := m.rev + 1) (os := os) (l := m.row)).2
              obtain ⟨VA, Vc, rfl, hvl, hVC⟩ := Kd.R_reads HR2.out
              have HVC := Lib.hid hVC
              clear hVC
              have hbE := Lib.hid (below_alloc (Below.refl wr.heap.size wr) (.cells #[] 60))
              have hR0 := Lib.hid (R_noneV wr wr.heap.size (Nat.le_refl _))
              have HCE := Lib.hid (Kd.C_below HT2.out.hap hbE.out)
              have hHc := HT2.out.cap.2
              have z3 := ((cell_alloc2 wr (.cells #[] 60) (a := ⟨b, 3, none⟩) (blk_lt HT2.out.blk)).trans (blk_cell HT2.out.blk 3)).trans rfl
              have p0 := (blk_cell HP2.out 0).trans rfl
              have p1 := (blk_cell HP2.out 1).trans rfl
              go_wp2_with (first | (at_builtin; refine Kd.R_append_rows kEvt (w0 := wr) wr.heap.size rfl (.tmp 109) (.tmp 110) 54 60 (.agg #[.int .i64 0, .bool false, .string ⟨#[]⟩, .string ⟨#[]⟩]) 48 rfl Try.underlying54 infoEvt rfl (by decide) (by decide) v1 ([] ++ m.hap) (opsL (m.rev + 1) os m.row).2 VA (opsL (m.rev + 1) os m.row).2.length Vc (fun _ => True) (fun _ => False) rfl rfl HR1.out HVC1.out (kEvt_MK _ _ _) (fun k h => h.elim) (fun _ _ => trivial) HB1.out HB1.out.size (by simp; omega) ?_; intro v2 wv2 hR2 hB2 hG2 hO2; rw [List.nil_append] at hR2; obtain ⟨B2, cb2, rfl, hbl, hBC⟩ := Kd.R_reads hR2; have HBC := Lib.hid hBC; have HB2 := Lib.hid hB2; have HR2n := Lib.hid hR2; have HTv := Lib.hid (HT2.out.below hB2); clear hBC hR2 hB2 hG2 hO2; have zf := blk_frozen HTv.out.blk 3; have y3 := (blk_cell HTv.out.blk 3).trans rfl) | (at_builtin; refine Kd.R_append_rows kEvt (w0 := wr) wr.heap.size rfl (.tmp 104) (.tmp 108) 54 60 (.agg #[.int .i64 0, .bool false, .string ⟨#[]⟩, .string ⟨#[]⟩]) 48 rfl Try.underlying54 infoEvt rfl (by decide) (by decide) (.slice (some ⟨wr.heap.size, 0, none⟩) 0 0) [] m.hap B m.hap.length cb (fun _ => True) (fun _ => False) rfl rfl hR0.out HCE.out (kEvt_MK _ _ _) (fun k h => h.elim) (fun _ _ => trivial) hbE.out hbE.out.size (by simp; omega) ?_; intro v1 wv1 hR1 hB1 hG1 hO1; have HR1 := Lib.hid hR1; have HB1 := Lib.hid hB1; have HVC1 := Lib.hid (Kd.C_below HVC.out hB1); clear hR1 hB1 hG1 hO1))
              go_ret3
              rw [show m.hap.length + (opsL (m.rev + 1) os m.row).2.length = (m.hap ++ (opsL (m.rev + 1) os m.row).2).length from List.length_append.symm]
              have hK := Rt.set HTv.out 3 (.slice B2 (m.hap ++ (opsL (m.rev + 1) os m.row).2).length cb2)
              have hRt : Rt _ b ⟨(opsL (m.rev + 1) os m.row).1, m.rev + 1, m.low, m.hap ++ (opsL (m.rev + 1) os m.row).2⟩ A2 c2 B2 cb2 := ⟨blk_put (cs' := rtC ⟨(opsL (m.rev + 1) os m.row).1, m.rev + 1, m.low, m.hap ++ (opsL (m.rev + 1) os m.row).2⟩ A2 c2 B2 cb2) HTv.out.blk 3 (.slice B2 (m.hap ++ (opsL (m.rev + 1) os m.row).2).length cb2) rfl, rt_ent HTv.out hK HTv.out.row, rt_evt HTv.out hK HBC.out, ⟨HTv.out.cap.1, hbl⟩⟩
              have hRV := R_kb (Kd.R_below HR2.out (Below.mono HB2.out (Nat.le_refl _))) hK lb
              have hKK := (HK2.out.then_below HB2.out).trans hK
              have hFr : ∀ a, B2 = some a → 0 < (m.hap ++ (opsL (m.rev + 1) os m.row).2).length → B2 = B ∧ 0 < m.hap.length ∨ w.heap.size ≤ a.block := fun a ha hn => .inr (Nat.le_trans HK2.out.size (R_new HR2n.out a ha hn))
              have hGr := HGR.out
              first | exact ⟨_, A2, c2, B2, cb2, rfl, hRV, hRt, hKK, hFr, hGr⟩ | exact ⟨_, rfl, hRV, A2, c2, B2, cb2, hRt, hKK, hFr, hGr⟩ | exact ⟨_, rfl, hRV, A2, c2, B2, ⟨cb2, hRt⟩, hKK, hFr, hGr⟩ | exact ⟨_, rfl, hRV, A2, B2, ⟨c2, cb2, hRt⟩, hKK, hFr, hGr⟩ | exact ⟨_, rfl, hRV, ⟨A2, c2, B2, cb2, hRt, hKK, hFr⟩⟩ | exact ⟨_, rfl, hRV, B2, ⟨A2, c2, cb2, hRt⟩, hKK, hFr⟩ | (trace_state; fail)
end Go.Proofs.Ytobanhbjkomieaa.TA
