import Derived.Test.YtobanhbjkomieaaUCSb
namespace Go.Proofs.Ytobanhbjkomieaa.TA
open Go Go.RowKit Go.Proofs.Ytobanhbjkomieaa.KP Go.Proofs.YtobanhbjkomieaaW.PrintWords Go.Proofs.YtobanhbjkomieaaW.PrintLast Go.Proofs.YtobanhbjkomieaaW.PrintMore
open Go.Proofs.Ytobanhbjkomieaa.RP (wTake wSkip wOne wpAnyH_cast below_next0)
set_option linter.unusedSimpArgs false
set_option linter.unusedVariables false
theorem ent_far {W : World} {A : Option Addr} {l : List Ent} (h : Kd.C kEnt W A l.length l) {g : Nat} {t : AT} {m : Md} {ad : Option Addr} {c : Nat} {T : TypeId} (hg : W.heap[g]? = some (.cells (trC t m ad c) T (0, 0))) (a : Addr) (ha : A = some a) (hn : 0 < l.length) : a.block ≠ g ∧ a.block < W.heap.size := by
  obtain ⟨ad', e, _, hc, _⟩ := at_Ent h hn
  obtain rfl : a = ad' := Option.some.inj (ha.symm.trans e)
  rw [addb] at hc
  generalize (a.add (0 * 4)).off + 1 = j at hc
  refine ⟨?_, World.block_lt_of_cell? _ ⟨a.block, j, none⟩ hc⟩
  rintro rfl
  rw [blk_cell hg j] at hc
  match j, hc with
  | 0, hc => cases hc
  | 1, hc => cases hc
  | 2, hc => cases hc
  | 3, hc => cases hc
  | 4, hc => cases hc
  | j + 5, hc => simp at hc
theorem kEnt_any {w : World} {x : Ent} {cs : List Value} (w' : World) (h : kEnt.K w x cs) : kEnt.K w' x cs := by
  obtain ⟨_, _, rfl, rfl, ⟨_, _, rfl, rfl, ⟨_, _, rfl, rfl, rfl⟩⟩⟩ := h
  exact kEnt_mk w' x
theorem ent_kb {W W' : World} {A : Option Addr} {l : List Ent} (h : Kd.C kEnt W A l.length l) {g : Nat} {t : AT} {m : Md} {ad : Option Addr} {c : Nat} {T : TypeId} (hg : W.heap[g]? = some (.cells (trC t m ad c) T (0, 0))) (hb : Kb g W W') : Kd.C kEnt W' A l.length l := by
  have h' := h
  obtain ⟨h1, h2, h3⟩ := h
  refine ⟨h1, h2, fun hn => ?_⟩
  obtain ⟨ad, e, hc⟩ := h3 hn
  refine ⟨ad, e, fun j p hp => ?_⟩
  obtain ⟨c, hl, hK, hu⟩ := hc j p hp
  have hf := ent_far h' hg ad e hn
  exact ⟨c, hl, kEnt_any W' hK, fun i u hi => (World.cell?_of_block (a := ad.add (j * kEnt.sz + i)) (by rw [addb]; exact hb.block _ hf.2 hf.1)).trans (hu i u hi)⟩
theorem again_srt {l : List Ent} (h : Srt l) (x : Evt) : Srt (again1 l x) := by
  unfold again1
  split
  · exact del_srt h
  · exact ins_srt h
theorem again_le (l : List Ent) (x : Evt) : (again1 l x).length ≤ l.length + 1 := by
  unfold again1
  split
  · exact Nat.le_succ_of_le del_leN
  · exact ins_leN _
theorem agains : ∀ (E : List Evt) {l : List Ent}, Srt l → Srt (E.foldl again1 l) ∧ (E.foldl again1 l).length ≤ l.length + E.length
  | [], _, h => ⟨h, Nat.le_refl _⟩
  | x :: E, l, h => by
    have h1 := agains E (again_srt h x)
    have h2 := again_le l x
    simp only [List.foldl_cons, List.length_cons]
    exact ⟨h1.1, by omega⟩
def madeS (k : ByteArray) (m : Int) (y : Ent) : Int := if y.key = k then y.made else m
theorem made_none {k : ByteArray} : ∀ {l : List Ent} (d : Int), (∀ y ∈ l, y.key ≠ k) → l.foldl (madeS k) d = d
  | [], _, _ => rfl
  | y :: l, d, h => by
    simp only [List.foldl_cons, madeS, if_neg (h y (by simp))]
    exact made_none d (fun z hz => h z (by simp [hz]))
theorem made_fold {k : ByteArray} : ∀ {l : List Ent} (d : Int), Srt l → l.foldl (madeS k) d = madeOf d k l
  | [], _, _ => rfl
  | y :: l, d, h => by
    have h' := List.pairwise_cons.1 h
    by_cases e : y.key = k
    · have hn : ∀ z ∈ l, z.key ≠ k := fun z hz ez => by have := h'.1 z hz; rw [e, ez, lt_irrefl] at this; cases this
      simp only [List.foldl_cons, madeS, if_pos e]
      rw [made_none _ hn]
      simp [madeOf, getL, e]
    · simp only [List.foldl_cons, madeS, if_neg e]
      rw [made_fold d h'.2]
      simp [madeOf, getL, e]
theorem again_loop {l : List Ent} (h : Srt l) (x : Evt) : again1 l x = putLoop ⟨x.key, x.val, madeOf x.rev x.key l, x.rev⟩ x.del l := by
  unfold again1
  cases hd : x.del
  · rw [if_neg (by simp)]
    exact (putLoop_ins h).symm
  · rw [if_pos rfl]
    exact (putLoop_done (x := ⟨x.key, x.val, madeOf x.rev x.key l, x.rev⟩) l).symm
theorem foldl_take {α β : Type} (f : β → α → β) (l : List α) {k : Nat} (h : k < l.length) (b : β) : (l.take (k + 1)).foldl f b = f ((l.take k).foldl f b) l[k] := by
  rw [take_snoc h, List.foldl_append]
  rfl
set_option maxHeartbeats 16000000 in
set_option maxRecDepth 100000 in
theorem TreeEvents_walk (A : Option Addr) (c : Nat) (l : List TxP) (A2 : Option Addr) (c2 : Nat) (l2 : List TxP) (w : World) (hc : l.length ≤ c) (hC : Kd.C PTr.k34 w A l.length l) (ok : (∀ x ∈ l, okX x) ∧ l.length ≤ maxLen)
    (hc2 : l2.length ≤ c2) (hC2 : Kd.C PTr.k34 w A2 l2.length l2) (ok2 : (∀ x ∈ l2, okX x) ∧ l2.length ≤ maxLen) :
    Calls Try.prog 4 #[.slice A l.length c, .slice A2 l2.length c2] w fun e w' => e = .returned (.bool true) ∧ Below w.heap.size w w' := by
  obtain ⟨b, hb5, hw⟩ := wide_any l ok.2 ok.1
  obtain ⟨b2, hb52, hw2⟩ := wide_any l2 ok2.2 ok2.1
  have HC := Lib.hid hC
  have HC2 := Lib.hid hC2
  have HX := Lib.hid ok.1
  have HX2 := Lib.hid ok2.1
  have HW := Lib.hid hw
  have HW2 := Lib.hid hw2
  clear hC hC2 ok ok2 hw hw2
  cases b
  · cases b2
    · have h5 := hb5 rfl
      have h52 := hb52 rfl
      clear hb5 hb52
      obtain ⟨M, hM⟩ : ∃ M, run may (l.map toX) Md.new = M := ⟨_, rfl⟩
      have HM := Lib.hid hM
      have hg := gr_run (l.map toX)
      rw [hM, List.length_map] at hg
      have HGr := Lib.hid hg
      have hw : wrap64 (M.rev + 1) = M.rev + 1 := by have := hg.rev; unfold wrap64; omega
      have hbM : M.row.length ≤ 4000 ∧ M.hap.length ≤ 4000 := by have h1 := hg.row; have h2 := hg.hap; omega
      have hrb : M.row.length ≤ 1000000000 := by omega
      clear hM hg
      go_enter Try.func4, Try.ntmps4
      go_wp2_with fail
      refine (HW.out _ _ _ hc (Kd.C_below HC.out (Below.refl w.heap.size w))).mono ?_
      rintro e w1 ⟨rfl, hb⟩
      have B_1 := Lib.hid (below_next0 (Below.refl w.heap.size w) hb)
      clear hb
      go_wp2_with fail
      refine (HW2.out _ _ _ hc2 (Kd.C_below HC2.out B_1.out)).mono ?_
      rintro e w2 ⟨rfl, hb⟩
      have B_2 := Lib.hid (below_next0 B_1.out hb)
      clear hb
      go_wp2_with fail
      refine (treeAwake_any w2).mono ?_
      rintro e w3 ⟨rfl, hb⟩
      have B_3 := Lib.hid (below_next0 B_2.out hb)
      clear hb
      go_wp2_with fail
      refine (grown_any A c l w3 hc (Kd.C_below HC.out B_3.out) HX.out h5).mono ?_
      rintro e w4 ⟨g, t_4, ad_5, c_6, rfl, hg, hA, hb⟩
      have Gg_7 := Lib.hid (Nat.le_trans B_3.out.size hg)
      have B_8 := Lib.hid (below_next0 B_3.out hb)
      rw [HM.out] at hA
      have Ag_9 := Lib.hid (hA)
      clear hg hA hb
      go_wp2_with fail
      refine (rev_any g t_4 (M) ad_5 c_6 w4 Ag_9.out).mono ?_
      rintro e w5 ⟨rfl, hb⟩
      have Ag_10 := Lib.hid (Ag_9.out.below hb)
      have B_11 := Lib.hid (below_next0 B_8.out hb)
      clear hb
      go_wp2_with fail
      refine (list_any g t_4 (M) ad_5 c_6 w5 Ag_10.out ⟨#[]⟩ hrb).mono ?_
      rintro e w6 ⟨V, rfl, hR, hb⟩
      rw [listL_nil] at hR
      try dsimp only at hR
      obtain ⟨rA, rc, rfl, rl, hC⟩ := Kd.R_reads hR
      have Ag_12 := Lib.hid (Ag_10.out.below hb)
      have B_13 := Lib.hid (below_next0 B_11.out hb)
      have Cr_14 := Lib.hid (hC)
      clear hR hC hb
      go_wp2_with fail
      obtain ⟨n0, hn0⟩ : ∃ n0, M.row.length = n0 := ⟨_, rfl⟩
      have HN0 := Lib.hid hn0
      have hn0b : n0 ≤ 4000 := by omega
      rw [hn0]
      clear hn0
      go_loopw [8] (fun i wr => ∃ (k : Nat) (t : AT) (ad : Option Addr) (c' : Nat), k ≤ l2.length ∧ i = .int .i64 k ∧ Hid (At wr g t (run may ((l2.take k).map toX) M) ad c') ∧ Hid (Kd.C kEnt wr rA M.row.length M.row) ∧ Hid (Below w.heap.size w wr)) (fun i _ => l2.length - (intOf i).toNat)
      case atStart => exact ⟨0, t_4, ad_5, c_6, by omega, rfl, Lib.hid Ag_12.out, Lib.hid Cr_14.out, Lib.hid B_13.out⟩
      case round =>
        obtain ⟨k, tg, adg, cg, hk, rfl, HAg, HCr, HB⟩ := hrel
        by_cases hlt : k < l2.length
        · have i0 : (0 : Int) ≤ (k : Int) := by omega
          have i1 : (k : Int) < (l2.length : Int) := by omega
          have hbd : (run may ((l2.take k).map toX) M).row.length ≤ 100000000 ∧ (run may ((l2.take k).map toX) M).hap.length ≤ 100000000 := run_bd l2 k h52 M ⟨by omega, by omega⟩
          have HR := Lib.hid (run_take hlt M)
          obtain ⟨abq_15, A0q_15, c0q_15, A9q_15, c9q_15, e0, f0, f1, l0, g0, l1, g1⟩ := at_Tx (Kd.C_below HC2.out HB.out) hlt
          cases e0
          have ho := okT_of (HX2.out l2[k] (List.getElem_mem hlt))
          have hcall := do_any g tg ((run may ((l2.take k).map toX) M)) adg cg wr HAg.out A0q_15 c0q_15 (toX l2[k]).cs A9q_15 c9q_15 (toX l2[k]).os l0 g0 l1 g1 ho hbd.1 hbd.2
          have HCLq_15 := Lib.hid hcall
          clear hcall g0 g1 ho l0 l1
          generalize (toX l2[k]).cs.length = n0q_15 at *
          generalize (toX l2[k]).os.length = n1q_15 at *
          go_wp2_with fail
          clear f0 f1
          refine HCLq_15.out.mono ?_
          rintro e w7 ⟨V, t_16, ad_17, c_18, rfl, _, hA, hK⟩
          have Cr_19 := Lib.hid (ent_kb HCr.out HAg.out.blk hK)
          have B_20 := Lib.hid (Kb.below HB.out hK Gg_7.out HB.out.size)
          rw [← HR.out] at hA
          have Ag_21 := Lib.hid (hA)
          clear hA hK
          go_wp2
          go_roundw
          case rel => exact ⟨k + 1, t_16, ad_17, c_18, by omega, by go_num, Lib.hid Ag_21.out, Lib.hid Cr_19.out, Lib.hid B_20.out⟩
          case measure => simp [intOf] <;> omega
        · obtain rfl : k = l2.length := by omega
          rw [List.take_length] at HAg
          obtain ⟨MA, hMA⟩ : ∃ MA, run may (l2.map toX) M = MA := ⟨_, rfl⟩
          rw [hMA] at HAg
          have hgA := gr_more HGr.out (l2.map toX)
          have hsm := since_more HGr.out (l2.map toX)
          have hel := evs_le (l2.map toX) M
          have her := evs_rev may (l2.map toX) M
          have hes := evs_ris may (l2.map toX) M
          have hea := evs_again may (l2.map toX) M
          rw [hMA, List.length_map] at hgA
          rw [hMA] at hsm hel her hea
          obtain ⟨E, hE⟩ : ∃ E, evsOf may (l2.map toX) M = E := ⟨_, rfl⟩
          rw [hE] at hsm hel her hes hea
          have HSM := Lib.hid hsm
          have HGA := Lib.hid hgA
          have HER := Lib.hid her
          have HES := Lib.hid hes
          have HEA := Lib.hid hea
          have hbA : MA.row.length ≤ 1000000000 ∧ MA.hap.length ≤ 1000000000 := by have h1 := hgA.row; have h2 := hgA.hap; omega
          have hel2 : E.length ≤ 8000 := by have h2 := hgA.hap; omega
          have HSR := Lib.hid HGr.out.ok.srt
          clear hsm hgA hMA hE hlt hel her hes hea
          go_wp2_with fail
          have hcall := since_any g tg (MA) adg cg wr HAg.out ⟨#[]⟩ (by simp [ByteArray.size]) (M.rev + 1) hbA.2
          rw [show isPrefix (⟨#[]⟩ : ByteArray).data.toList = true from rfl, HSM.out] at hcall
          refine hcall.mono ?_
          clear hcall
          rintro e w7 ⟨V, rfl, hR, hb⟩
          obtain ⟨esA, esc, rfl, esl, hC⟩ := Kd.R_reads hR
          have Ag_15 := Lib.hid (HAg.out.below hb)
          have Cr_16 := Lib.hid (Kd.C_below HCr.out hb)
          have B_17 := Lib.hid (below_next0 HB.out hb)
          have Ces_18 := Lib.hid (hC)
          clear hR hC hb
          go_wp2_with fail
          obtain ⟨ne, hne⟩ : ∃ ne, E.length = ne := ⟨_, rfl⟩
          have HNE := Lib.hid hne
          rw [hne] at hel2 ⊢
          clear hne
          go_loopw [7, 11, 12] (fun av lv i wr => ∃ (k : Nat) (aA : Option Addr) (n ac : Nat) (q : Int), k ≤ ne ∧ i = .int .i64 k ∧ lv = .int .i64 q ∧ av = .slice aA n ac ∧ n ≤ ac ∧ Hid (((E.take k).foldl again1 M.row).length = n) ∧ Hid (∀ j (h : j < E.length), k ≤ j → q ≤ E[j].rev) ∧ Hid (Kd.C kEnt wr aA ((E.take k).foldl again1 M.row).length ((E.take k).foldl again1 M.row)) ∧ Hid (Below w7.heap.size w7 wr)) (fun _ _ i _ => ne - (intOf i).toNat)
          case atStart => exact ⟨0, rA, n0, rc, M.rev + 1, by omega, rfl, rfl, rfl, by rw [← HN0.out]; exact rl, Lib.hid HN0.out, Lib.hid (fun j h _ => by have := (HER.out _ (List.getElem_mem h)).1; omega), Lib.hid Cr_16.out, Lib.hid (Below.refl _ _)⟩
          case round =>
            obtain ⟨k, aA, n, ac, q, hk, rfl, rfl, rfl, hnc, HN, HQ, HCa, HB⟩ := hrel
            by_cases hlt : k < ne
            · have hlk : k < E.length := by (rw [HNE.out]; exact hlt)
              have i0 : (0 : Int) ≤ (k : Int) := by omega
              have i1 : (k : Int) < (ne : Int) := by omega
              obtain ⟨ab, e0, f0, f1, f2, f3⟩ := at_Evt (Kd.C_below Ces_18.out HB.out) hlk
              cases e0
              have hq1 := HQ.out k hlk (Nat.le_refl _)
              have hq2 := (HER.out _ (List.getElem_mem hlk)).2
              have hft := foldl_take again1 E hlk M.row
              have hag := agains (E.take k) HSR.out
              have hq3 : ∀ j (h : j < E.length), k + 1 ≤ j → E[k].rev ≤ E[j].rev := fun j h hj => List.pairwise_iff_getElem.1 HES.out k j hlk h (by omega)
              have HQ3 := Lib.hid hq3
              clear hq3
              obtain ⟨L, hL⟩ : ∃ L, ((E.take k).foldl again1 M.row) = L := ⟨_, rfl⟩
              rw [hL] at hft hag HN HCa
              obtain ⟨X, hX⟩ : ∃ X, E[k] = X := ⟨_, rfl⟩
              rw [hX] at f0 f1 f2 f3 hq1 hq2 hft HQ3
              rw [again_loop hag.1] at hft
              have HFT := Lib.hid hft
              have HSL := Lib.hid hag.1
              have hLb : n ≤ 20000 := by (have h1 := hag.2; rw [List.length_take] at h1; rw [HN.out] at h1; rw [HN0.out] at h1; omega)
              have HNL := HN
              have HQ1 := Lib.hid hq1
              have HQ2 := Lib.hid hq2
              clear hft hag hX hL HN hq1 hq2
              have C_19 := Lib.hid (HCa.out)
              have A_20 := Lib.hid ((Ag_15.out.below HB.out))
              have C_21 := Lib.hid ((Kd.C_below Ces_18.out HB.out))
              go_wp2_with fail
              clear f0 f1 f2 f3
              obtain ⟨xb, hxb⟩ : ∃ X, X = wr.heap.size := ⟨_, rfl⟩
              try rw [← hxb]
              have hb : Below wr.heap.size wr (wr.alloc (.cells #[.int .i64 X.rev, .bool X.del, .string X.key, .string X.val] 60)) := below_alloc (Below.refl _ _) _
              have hN : (wr.alloc (.cells #[.int .i64 X.rev, .bool X.del, .string X.key, .string X.val] 60)).heap[xb]? = some (.cells #[.int .i64 X.rev, .bool X.del, .string X.key, .string X.val] 60 (0, 0)) := hxb ▸ heap_alloc_new wr (.cells #[.int .i64 X.rev, .bool X.del, .string X.key, .string X.val] 60)
              clear hxb
              generalize wr.alloc (.cells #[.int .i64 X.rev, .bool X.del, .string X.key, .string X.val] 60) = w8 at *
              have Ag_22 := Lib.hid (A_20.out.below hb)
              have Ces_23 := Lib.hid (Kd.C_below C_21.out hb)
              have Ca_24 := Lib.hid (Kd.C_below C_19.out hb)
              have B_25 := Lib.hid (below_next0 HB.out hb)
              clear hb
              have Hxb_26 := Lib.hid (hN)
              clear hN
              have hq1 := HQ1.out
              have hq2 := HQ2.out
              refine wp_region_noPanic ?_
              refine wp_region_held_drew (S := fun W => W.cell? ⟨xb, 0, none⟩ = some (.int .i64 X.rev) ∧ W.cell? ⟨xb, 1, none⟩ = some (.bool X.del) ∧ W.cell? ⟨xb, 2, none⟩ = some (.string X.key) ∧ W.cell? ⟨xb, 3, none⟩ = some (.string X.val)) (by kernel_rfl) (⟨(blk_cell (show w8.drew.heap[xb]? = _ from Hxb_26.out) 0).trans rfl, (blk_cell (show w8.drew.heap[xb]? = _ from Hxb_26.out) 1).trans rfl, (blk_cell (show w8.drew.heap[xb]? = _ from Hxb_26.out) 2).trans rfl, (blk_cell (show w8.drew.heap[xb]? = _ from Hxb_26.out) 3).trans rfl⟩) (fun hHeld => ?_)
              refine wTake 0 ?_
              refine wTake 1 ?_
              refine wTake 2 ?_
              refine wTake 3 ?_
              try simp only [Act.put, List.setIfInBounds_toArray, List.set_cons_zero, List.set_cons_succ]
              try simp only [decide_eq_false (show ¬ X.rev < q by omega)]
              refine wTake 4 ?_
              try simp only [Act.put, List.setIfInBounds_toArray, List.set_cons_zero, List.set_cons_succ]
              refine wTake 5 ?_
              try simp only [Act.put, List.setIfInBounds_toArray, List.set_cons_zero, List.set_cons_succ]
              refine wTake 6 ?_
              try simp only [Act.put, List.setIfInBounds_toArray, List.set_cons_zero, List.set_cons_succ]
              refine wTake 7 ?_
              try simp only [Act.put, List.setIfInBounds_toArray, List.set_cons_zero, List.set_cons_succ]
              refine wpAnyH_ready (rs := [8]) (by kernel_rfl) (by simp) (AllReadyH.cons rfl (fun K hK => ?_) AllReadyH.nil)
              go_simp
              refine (rev_any g tg (MA) adg cg w8.drew (Ag_22.out.below (Below.refl _ _).drew)).mono ?_
              rintro e w9 ⟨rfl, hb⟩
              have hbd : Below w8.heap.size w8 w9 := below_next0 (Below.refl _ _).drew hb
              have hs' : (fun W => W.cell? ⟨xb, 0, none⟩ = some (.int .i64 X.rev) ∧ W.cell? ⟨xb, 1, none⟩ = some (.bool X.del) ∧ W.cell? ⟨xb, 2, none⟩ = some (.string X.key) ∧ W.cell? ⟨xb, 3, none⟩ = some (.string X.val)) w9 := ⟨(blk_cell ((hbd.block _ (blk_lt Hxb_26.out)).trans Hxb_26.out) 0).trans rfl, (blk_cell ((hbd.block _ (blk_lt Hxb_26.out)).trans Hxb_26.out) 1).trans rfl, (blk_cell ((hbd.block _ (blk_lt Hxb_26.out)).trans Hxb_26.out) 2).trans rfl, (blk_cell ((hbd.block _ (blk_lt Hxb_26.out)).trans Hxb_26.out) 3).trans rfl⟩
              go_wp2_with fail
              refine hK.out _ _ hs' (fun hHeld => ?_)
              clear hK K
              try simp only [Act.put, List.setIfInBounds_toArray, List.set_cons_zero, List.set_cons_succ]
              refine wTake 9 ?_
              try simp only [Act.put, List.setIfInBounds_toArray, List.set_cons_zero, List.set_cons_succ]
              try simp only [decide_eq_false (show ¬ MA.rev < X.rev by omega)]
              refine wTake 10 ?_
              try simp only [Act.put, List.setIfInBounds_toArray, List.set_cons_zero, List.set_cons_succ]
              refine wpAnyH_done (by kernel_rfl) ?_ _
              refine NoPanic.normal ?_
              clear hHeld hs' hb hq1 hq2
              have Ag_27 := Lib.hid (Ag_22.out.below hbd)
              have Ces_28 := Lib.hid (Kd.C_below Ces_23.out hbd)
              have Ca_29 := Lib.hid (Kd.C_below Ca_24.out hbd)
              have Hxb_30 := Lib.hid ((hbd.block _ (blk_lt Hxb_26.out)).trans Hxb_26.out)
              have B_31 := Lib.hid (below_next0 B_25.out hbd)
              clear hbd
              have b0 := blk_cell Hxb_30.out 0
              have b1 := blk_cell Hxb_30.out 1
              have b2 := blk_cell Hxb_30.out 2
              have b3 := blk_cell Hxb_30.out 3
              simp only [List.getElem?_toArray, List.getElem?_cons_zero, List.getElem?_cons_succ] at b0 b1 b2 b3
              have bl := blk_lt Hxb_30.out
              go_wp2_with fail
              clear b0 b1 b2 b3 bl
              go_loopw [15, 17] (fun mv i wr => ∃ j : Nat, j ≤ n ∧ i = .int .i64 j ∧ mv = .int .i64 ((L.take j).foldl (madeS X.key) X.rev) ∧ Hid (Below w9.heap.size w9 wr)) (fun _ i _ => n - (intOf i).toNat)
              case atStart => exact ⟨0, by omega, rfl, rfl, Lib.hid (Below.refl _ _)⟩
              case round =>
                obtain ⟨j, hj, rfl, rfl, HB2⟩ := hrel
                by_cases hjn : j < n
                · have hlj : j < L.length := by (rw [HNL.out]; exact hjn)
                  have i0 : (0 : Int) ≤ (j : Int) := by omega
                  have i1 : (j : Int) < (n : Int) := by omega
                  obtain ⟨ar, e0, f0, f1, f2, f3⟩ := at_Ent (Kd.C_below Ca_29.out HB2.out) hlj
                  cases e0
                  have b2 := (blk_cell ((HB2.out.block _ (blk_lt Hxb_30.out)).trans Hxb_30.out) 2).trans rfl
                  have hmt := foldl_take (madeS X.key) L hlj X.rev
                  have HMT := Lib.hid hmt
                  clear hmt
                  by_cases he : L[j].key = X.key
                  · have k3 := beq_same he
                    have HE := Lib.hid he
                    clear he
                    go_wp2_with fail
                    refine wp_region_noPanic ?_
                    refine wp_region_held_drew (S := fun W => W.cell? (ar.add (j * 4)) = some (.string L[j].key) ∧ W.cell? ⟨xb, 2, none⟩ = some (.string X.key)) (by kernel_rfl) (⟨f0, b2⟩) (fun hHeld => ?_)
                    refine wTake 0 ?_
                    refine wTake 1 ?_
                    refine wTake 2 ?_
                    refine wTake 3 ?_
                    refine wTake 4 ?_
                    refine wTake 5 ?_
                    refine wTake 6 ?_
                    refine wTake 7 ?_
                    try simp only [Act.put, List.setIfInBounds_toArray, List.set_cons_zero, List.set_cons_succ]
                    refine wpAnyH_done (by kernel_rfl) ?_ _
                    refine NoPanic.normal ?_
                    have c2 : wr.drew.cell? ⟨(ar.add (j * 4)).block, (ar.add (j * 4)).off + 2, none⟩ = _ := f2
                    clear hHeld
                    go_wp2
                    go_roundw
                    case rel => exact ⟨j + 1, by omega, by go_num, by rw [HMT.out]; unfold madeS; rw [if_pos HE.out], Lib.hid (below_drew HB2.out)⟩
                    case measure => simp [intOf] <;> omega
                  · have k3 := beq_ne he
                    have HE := Lib.hid he
                    clear he
                    go_wp2_with fail
                    refine wp_region_noPanic ?_
                    refine wp_region_held_drew (S := fun W => W.cell? (ar.add (j * 4)) = some (.string L[j].key) ∧ W.cell? ⟨xb, 2, none⟩ = some (.string X.key)) (by kernel_rfl) (⟨f0, b2⟩) (fun hHeld => ?_)
                    refine wTake 0 ?_
                    refine wTake 1 ?_
                    refine wTake 2 ?_
                    refine wTake 3 ?_
                    refine wTake 4 ?_
                    refine wTake 5 ?_
                    refine wTake 6 ?_
                    refine wTake 7 ?_
                    try simp only [Act.put, List.setIfInBounds_toArray, List.set_cons_zero, List.set_cons_succ]
                    refine wpAnyH_done (by kernel_rfl) ?_ _
                    refine NoPanic.normal ?_
                    have c2 : wr.drew.cell? ⟨(ar.add (j * 4)).block, (ar.add (j * 4)).off + 2, none⟩ = _ := f2
                    clear hHeld
                    go_wp2
                    go_roundw
                    case rel => exact ⟨j + 1, by omega, by go_num, by rw [HMT.out]; unfold madeS; rw [if_neg HE.out], Lib.hid (below_drew HB2.out)⟩
                    case measure => simp [intOf] <;> omega
                · obtain rfl : j = n := by omega
                  have hml : (L.take j).foldl (madeS X.key) X.rev = madeOf X.rev X.key L := by (rw [List.take_of_length_le (by rw [HNL.out]; exact Nat.le_refl _)]; exact made_fold _ HSL.out)
                  rw [hml]
                  clear hml
                  obtain ⟨md, hmd⟩ : ∃ md, madeOf X.rev X.key L = md := ⟨_, rfl⟩
                  rw [hmd] at HFT ⊢
                  clear hmd hjn
                  obtain ⟨wq, rfl⟩ : ∃ wq, wq = wr := ⟨_, rfl⟩
                  have H_32 := Lib.hid ((HB2.out.block _ (blk_lt Hxb_30.out)).trans Hxb_30.out)
                  have C_33 := Lib.hid (Kd.C_below Ca_29.out HB2.out)
                  have C_34 := Lib.hid (Kd.C_below Ces_28.out HB2.out)
                  have A_35 := Lib.hid (Ag_27.out.below HB2.out)
                  have B_36 := Lib.hid (below_next0 B_31.out HB2.out)
                  go_wp2_with fail
                  go_loopw [14, 16, 18] (fun nv dv i wr => ∃ (k2 : Nat) (dd : Bool) (N : List Ent), k2 ≤ j ∧ i = .int .i64 k2 ∧ dv = .bool dd ∧ N.length ≤ 2 * k2 ∧ Hid (N ++ putLoop (⟨X.key, X.val, md, X.rev⟩ : Ent) dd (L.drop k2) = putLoop (⟨X.key, X.val, md, X.rev⟩ : Ent) X.del L) ∧ Hid (Below wq.heap.size wq wr) ∧ Hid (kEnt.R 62 wr wq.heap.size (fun _ => True) nv N)) (fun _ _ i _ => j - (intOf i).toNat)
                  case atStart => exact ⟨0, X.del, [], by omega, rfl, rfl, by simp, Lib.hid rfl, Lib.hid (Below.refl _ _), Lib.hid (Kd.R_nil _ _ _ _ _)⟩
                  case round =>
                    obtain ⟨k2, dd, N, hk2, rfl, rfl, hNl, HPL, HB3, HR3⟩ := hrel
                    by_cases hkn : k2 < j
                    · have hlj : k2 < L.length := by (rw [HNL.out]; exact hkn)
                      have i0 : (0 : Int) ≤ (k2 : Int) := by omega
                      have i1 : (k2 : Int) < (j : Int) := by omega
                      have hdr : L.drop k2 = L[k2] :: L.drop (k2 + 1) := List.drop_eq_getElem_cons hlj
                      obtain ⟨ar, e0, f0, f1, f2, f3⟩ := at_Ent (Kd.C_below C_33.out HB3.out) hlj
                      cases e0
                      have hpl := HPL.out
                      rw [hdr, putLoop] at hpl
                      obtain ⟨Y, hY⟩ : ∃ Y, L[k2] = Y := ⟨_, rfl⟩
                      rw [hY] at f0 f1 f2 f3 hpl
                      have HYL := Lib.hid hY
                      clear hdr hY HPL
                      have HX3 := Lib.hid ((HB3.out.block _ (blk_lt H_32.out)).trans H_32.out)
                      cases dd
                      · have b2 := (blk_cell HX3.out 2).trans rfl
                        cases hl : lt Y.key X.key
                        · have k1 := lt_bytes hl
                          rw [hl] at hpl
                          simp only [Bool.not_false, Bool.and_self, if_true] at hpl
                          go_wp2_with fail
                          refine wp_region_noPanic ?_
                          refine wp_region_held_drew (S := fun W => W.cell? (ar.add (k2 * 4)) = some (.string Y.key) ∧ W.cell? ⟨xb, 2, none⟩ = some (.string X.key)) (by kernel_rfl) (⟨f0, b2⟩) (fun hHeld => ?_)
                          refine wTake 0 ?_
                          refine wTake 1 ?_
                          refine wTake 2 ?_
                          try simp only [Act.put, List.setIfInBounds_toArray, List.set_cons_zero, List.set_cons_succ]
                          refine wTake 3 ?_
                          try simp only [Act.put, List.setIfInBounds_toArray, List.set_cons_zero, List.set_cons_succ]
                          refine wTake 4 ?_
                          try simp only [Act.put, List.setIfInBounds_toArray, List.set_cons_zero, List.set_cons_succ]
                          refine wTake 5 ?_
                          try simp only [Act.put, List.setIfInBounds_toArray, List.set_cons_zero, List.set_cons_succ]
                          refine wTake 6 ?_
                          try simp only [Act.put, List.setIfInBounds_toArray, List.set_cons_zero, List.set_cons_succ]
                          refine wTake 7 ?_
                          try simp only [Act.put, List.setIfInBounds_toArray, List.set_cons_zero, List.set_cons_succ]
                          refine wTake 8 ?_
                          try simp only [Act.put, List.setIfInBounds_toArray, List.set_cons_zero, List.set_cons_succ]
                          refine wTake 9 ?_
                          try simp only [Act.put, List.setIfInBounds_toArray, List.set_cons_zero, List.set_cons_succ]
                          refine wTake 10 ?_
                          refine wTake 11 ?_
                          try simp only [Act.put, List.setIfInBounds_toArray, List.set_cons_zero, List.set_cons_succ]
                          refine wpAnyH_done (by kernel_rfl) ?_ _
                          refine NoPanic.normal ?_
                          clear hHeld k1 hl
                          have HX3d := Lib.hid (show wr.drew.heap[xb]? = _ from HX3.out)
                          have b0 := blk_cell HX3d.out 0
                          have b1 := blk_cell HX3d.out 1
                          have b2 := blk_cell HX3d.out 2
                          have b3 := blk_cell HX3d.out 3
                          simp only [List.getElem?_toArray, List.getElem?_cons_zero, List.getElem?_cons_succ] at b0 b1 b2 b3
                          have bl := blk_lt HX3d.out
                          have hpl2 : (N ++ [(⟨X.key, X.val, md, X.rev⟩ : Ent)]) ++ (if Y.key = X.key then putLoop (⟨X.key, X.val, md, X.rev⟩ : Ent) true (L.drop (k2 + 1)) else Y :: putLoop (⟨X.key, X.val, md, X.rev⟩ : Ent) true (L.drop (k2 + 1))) = putLoop (⟨X.key, X.val, md, X.rev⟩ : Ent) X.del L := by (rw [List.append_assoc]; exact hpl)
                          clear hpl
                          go_wp2_with (at_builtin; refine Kd.R_append kEnt (w0 := wr.drew) wq.heap.size rfl (.tmp 122) (.tmp 131) 52 62 (.agg #[.string ⟨#[]⟩, .string ⟨#[]⟩, .int .i64 0, .int .i64 0]) 48 rfl Try.underlying52 infoEnt rfl (by decide) (by omega) _ _ (⟨X.key, X.val, md, X.rev⟩ : Ent) [.string X.key, .string X.val, .int .i64 md, .int .i64 X.rev] (fun _ => True) (fun _ => False) rfl rfl (kEnt_mkM _ _ _ _) (fun _ hk => hk.elim) (fun _ _ => trivial) (Kd.R_drew HR3.out) (Below.refl _ _) (below_drew HB3.out).size (by omega) ?_; intro v1 wz ho hb hg _)
                          clear b0 b1 b2 b3 bl
                          have hpl := hpl2
                          clear hpl2
                          have R_37 := Lib.hid (ho)
                          have B_38 := Lib.hid ((below_drew HB3.out).trans hb)
                          clear ho hb hg f0 f1 f2 f3
                          obtain ⟨ar2, e0, f0, f1, f2, f3⟩ := at_Ent (Kd.C_below C_33.out B_38.out) hlj
                          cases e0
                          rw [HYL.out] at f0 f1 f2 f3
                          have b2 := (blk_cell ((B_38.out.block _ (blk_lt H_32.out)).trans H_32.out) 2).trans rfl
                          by_cases he : Y.key = X.key
                          · have k3 := beq_same he
                            rw [if_pos he] at hpl
                            have HPM := Lib.hid hpl
                            clear hpl he
                            go_wp2_with fail
                            refine wp_region_noPanic ?_
                            refine wp_region_held_drew (S := fun W => W.cell? (ar.add (k2 * 4)) = some (.string Y.key) ∧ W.cell? ⟨xb, 2, none⟩ = some (.string X.key)) (by kernel_rfl) (⟨f0, b2⟩) (fun hHeld => ?_)
                            refine wTake 0 ?_
                            refine wTake 1 ?_
                            refine wTake 2 ?_
                            refine wTake 3 ?_
                            refine wTake 4 ?_
                            refine wTake 5 ?_
                            refine wTake 6 ?_
                            refine wTake 7 ?_
                            try simp only [Act.put, List.setIfInBounds_toArray, List.set_cons_zero, List.set_cons_succ]
                            refine wpAnyH_done (by kernel_rfl) ?_ _
                            refine NoPanic.normal ?_
                            clear hHeld
                            go_wp2
                            go_roundw
                            case rel => exact ⟨k2 + 1, true, _, by omega, by go_num, rfl, by (simp only [List.length_append, List.length_singleton]; omega), HPM, Lib.hid (below_drew B_38.out), Lib.hid (Kd.R_drew R_37.out)⟩
                            case measure => simp [intOf] <;> omega
                          · have k3 := beq_ne he
                            rw [if_neg he] at hpl
                            have HPM := Lib.hid hpl
                            clear hpl he
                            go_wp2_with fail
                            refine wp_region_noPanic ?_
                            refine wp_region_held_drew (S := fun W => W.cell? (ar.add (k2 * 4)) = some (.string Y.key) ∧ W.cell? ⟨xb, 2, none⟩ = some (.string X.key)) (by kernel_rfl) (⟨f0, b2⟩) (fun hHeld => ?_)
                            refine wTake 0 ?_
                            refine wTake 1 ?_
                            refine wTake 2 ?_
                            refine wTake 3 ?_
                            refine wTake 4 ?_
                            refine wTake 5 ?_
                            refine wTake 6 ?_
                            refine wTake 7 ?_
                            try simp only [Act.put, List.setIfInBounds_toArray, List.set_cons_zero, List.set_cons_succ]
                            refine wpAnyH_done (by kernel_rfl) ?_ _
                            refine NoPanic.normal ?_
                            clear hHeld
                            have c0 : wz.drew.cell? (ar.add (k2 * 4)) = _ := f0
                            have c1 : wz.drew.cell? ⟨(ar.add (k2 * 4)).block, (ar.add (k2 * 4)).off + 1, none⟩ = _ := f1
                            have c2 : wz.drew.cell? ⟨(ar.add (k2 * 4)).block, (ar.add (k2 * 4)).off + 2, none⟩ = _ := f2
                            have c3 : wz.drew.cell? ⟨(ar.add (k2 * 4)).block, (ar.add (k2 * 4)).off + 3, none⟩ = _ := f3
                            go_wp2_with (at_builtin; refine Kd.R_append kEnt (w0 := wz.drew) wq.heap.size rfl (.tmp 141) (.tmp 146) 52 62 (.agg #[.string ⟨#[]⟩, .string ⟨#[]⟩, .int .i64 0, .int .i64 0]) 48 rfl Try.underlying52 infoEnt rfl (by decide) (by omega) _ _ Y [.string Y.key, .string Y.val, .int .i64 Y.made, .int .i64 Y.mod] (fun _ => True) (fun _ => False) rfl rfl (kEnt_mkM _ _ _ _) (fun _ hk => hk.elim) (fun _ _ => trivial) (Kd.R_drew R_37.out) (Below.refl _ _) (below_drew B_38.out).size (by (try simp only [List.length_append, List.length_singleton]); omega) ?_; intro v1 wz ho hb hg _)
                            go_roundw
                            case rel => exact ⟨k2 + 1, true, _, by omega, by go_num, rfl, by (simp only [List.length_append, List.length_singleton]; omega), Lib.hid (by rw [List.append_assoc]; exact HPM.out), Lib.hid ((below_drew B_38.out).trans hb), Lib.hid ho⟩
                            case measure => simp [intOf] <;> omega
                        · have k1 := lt_bytes hl
                          rw [hl] at hpl
                          simp only [Bool.not_false, Bool.not_true, Bool.and_false, Bool.false_eq_true, if_false] at hpl
                          go_wp2_with fail
                          refine wp_region_noPanic ?_
                          refine wp_region_held_drew (S := fun W => W.cell? (ar.add (k2 * 4)) = some (.string Y.key) ∧ W.cell? ⟨xb, 2, none⟩ = some (.string X.key)) (by kernel_rfl) (⟨f0, b2⟩) (fun hHeld => ?_)
                          refine wTake 0 ?_
                          refine wTake 1 ?_
                          refine wTake 2 ?_
                          try simp only [Act.put, List.setIfInBounds_toArray, List.set_cons_zero, List.set_cons_succ]
                          refine wTake 3 ?_
                          try simp only [Act.put, List.setIfInBounds_toArray, List.set_cons_zero, List.set_cons_succ]
                          refine wTake 4 ?_
                          try simp only [Act.put, List.setIfInBounds_toArray, List.set_cons_zero, List.set_cons_succ]
                          refine wTake 5 ?_
                          try simp only [Act.put, List.setIfInBounds_toArray, List.set_cons_zero, List.set_cons_succ]
                          refine wTake 6 ?_
                          try simp only [Act.put, List.setIfInBounds_toArray, List.set_cons_zero, List.set_cons_succ]
                          refine wTake 7 ?_
                          try simp only [Act.put, List.setIfInBounds_toArray, List.set_cons_zero, List.set_cons_succ]
                          refine wTake 8 ?_
                          try simp only [Act.put, List.setIfInBounds_toArray, List.set_cons_zero, List.set_cons_succ]
                          refine wTake 9 ?_
                          try simp only [Act.put, List.setIfInBounds_toArray, List.set_cons_zero, List.set_cons_succ]
                          refine wTake 10 ?_
                          refine wTake 11 ?_
                          try simp only [Act.put, List.setIfInBounds_toArray, List.set_cons_zero, List.set_cons_succ]
                          refine wpAnyH_done (by kernel_rfl) ?_ _
                          refine NoPanic.normal ?_
                          clear hHeld k1 hl f0 f1 f2 f3 b2
                          have R_37 := Lib.hid (Kd.R_drew HR3.out)
                          have B_38 := Lib.hid (below_drew HB3.out)
                          obtain ⟨ar2, e0, f0, f1, f2, f3⟩ := at_Ent (Kd.C_below C_33.out B_38.out) hlj
                          cases e0
                          rw [HYL.out] at f0 f1 f2 f3
                          have b2 := (blk_cell ((B_38.out.block _ (blk_lt H_32.out)).trans H_32.out) 2).trans rfl
                          by_cases he : Y.key = X.key
                          · have k3 := beq_same he
                            rw [if_pos he] at hpl
                            have HPM := Lib.hid hpl
                            clear hpl he
                            go_wp2_with fail
                            refine wp_region_noPanic ?_
                            refine wp_region_held_drew (S := fun W => W.cell? (ar.add (k2 * 4)) = some (.string Y.key) ∧ W.cell? ⟨xb, 2, none⟩ = some (.string X.key)) (by kernel_rfl) (⟨f0, b2⟩) (fun hHeld => ?_)
                            refine wTake 0 ?_
                            refine wTake 1 ?_
                            refine wTake 2 ?_
                            refine wTake 3 ?_
                            refine wTake 4 ?_
                            refine wTake 5 ?_
                            refine wTake 6 ?_
                            refine wTake 7 ?_
                            try simp only [Act.put, List.setIfInBounds_toArray, List.set_cons_zero, List.set_cons_succ]
                            refine wpAnyH_done (by kernel_rfl) ?_ _
                            refine NoPanic.normal ?_
                            clear hHeld
                            go_wp2
                            go_roundw
                            case rel => exact ⟨k2 + 1, false, _, by omega, by go_num, rfl, by omega, HPM, Lib.hid (below_drew B_38.out), Lib.hid (Kd.R_drew R_37.out)⟩
                            case measure => simp [intOf] <;> omega
                          · have k3 := beq_ne he
                            rw [if_neg he] at hpl
                            have HPM := Lib.hid hpl
                            clear hpl he
                            go_wp2_with fail
                            refine wp_region_noPanic ?_
                            refine wp_region_held_drew (S := fun W => W.cell? (ar.add (k2 * 4)) = some (.string Y.key) ∧ W.cell? ⟨xb, 2, none⟩ = some (.string X.key)) (by kernel_rfl) (⟨f0, b2⟩) (fun hHeld => ?_)
                            refine wTake 0 ?_
                            refine wTake 1 ?_
                            refine wTake 2 ?_
                            refine wTake 3 ?_
                            refine wTake 4 ?_
                            refine wTake 5 ?_
                            refine wTake 6 ?_
                            refine wTake 7 ?_
                            try simp only [Act.put, List.setIfInBounds_toArray, List.set_cons_zero, List.set_cons_succ]
                            refine wpAnyH_done (by kernel_rfl) ?_ _
                            refine NoPanic.normal ?_
                            clear hHeld
                            have c0 : wr.drew.drew.cell? (ar.add (k2 * 4)) = _ := f0
                            have c1 : wr.drew.drew.cell? ⟨(ar.add (k2 * 4)).block, (ar.add (k2 * 4)).off + 1, none⟩ = _ := f1
                            have c2 : wr.drew.drew.cell? ⟨(ar.add (k2 * 4)).block, (ar.add (k2 * 4)).off + 2, none⟩ = _ := f2
                            have c3 : wr.drew.drew.cell? ⟨(ar.add (k2 * 4)).block, (ar.add (k2 * 4)).off + 3, none⟩ = _ := f3
                            go_wp2_with (at_builtin; refine Kd.R_append kEnt (w0 := wr.drew.drew) wq.heap.size rfl (.tmp 141) (.tmp 146) 52 62 (.agg #[.string ⟨#[]⟩, .string ⟨#[]⟩, .int .i64 0, .int .i64 0]) 48 rfl Try.underlying52 infoEnt rfl (by decide) (by omega) _ _ Y [.string Y.key, .string Y.val, .int .i64 Y.made, .int .i64 Y.mod] (fun _ => True) (fun _ => False) rfl rfl (kEnt_mkM _ _ _ _) (fun _ hk => hk.elim) (fun _ _ => trivial) (Kd.R_drew R_37.out) (Below.refl _ _) (below_drew B_38.out).size (by (try simp only [List.length_append, List.length_singleton]); omega) ?_; intro v1 wz ho hb hg _)
                            go_roundw
                            case rel => exact ⟨k2 + 1, false, _, by omega, by go_num, rfl, by (simp only [List.length_append, List.length_singleton]; omega), Lib.hid (by rw [List.append_assoc]; exact HPM.out), Lib.hid ((below_drew B_38.out).trans hb), Lib.hid ho⟩
                            case measure => simp [intOf] <;> omega
                      · simp only [Bool.not_true, Bool.false_and, Bool.false_eq_true, if_false] at hpl
                        go_wp2_with fail
                        refine wp_region_noPanic ?_
                        refine wp_region_held_drew (S := fun _ => True) (by kernel_rfl) (trivial) (fun hHeld => ?_)
                        refine wTake 0 ?_
                        refine wTake 1 ?_
                        refine wTake 2 ?_
                        try simp only [Act.put, List.setIfInBounds_toArray, List.set_cons_zero, List.set_cons_succ]
                        refine wSkip 3 ?_
                        try simp only [Act.put, List.setIfInBounds_toArray, List.set_cons_zero, List.set_cons_succ]
                        refine wSkip 4 ?_
                        try simp only [Act.put, List.setIfInBounds_toArray, List.set_cons_zero, List.set_cons_succ]
                        refine wSkip 5 ?_
                        try simp only [Act.put, List.setIfInBounds_toArray, List.set_cons_zero, List.set_cons_succ]
                        refine wSkip 6 ?_
                        try simp only [Act.put, List.setIfInBounds_toArray, List.set_cons_zero, List.set_cons_succ]
                        refine wSkip 7 ?_
                        try simp only [Act.put, List.setIfInBounds_toArray, List.set_cons_zero, List.set_cons_succ]
                        refine wSkip 8 ?_
                        try simp only [Act.put, List.setIfInBounds_toArray, List.set_cons_zero, List.set_cons_succ]
                        refine wSkip 9 ?_
                        try simp only [Act.put, List.setIfInBounds_toArray, List.set_cons_zero, List.set_cons_succ]
                        refine wSkip 10 ?_
                        refine wTake 11 ?_
                        try simp only [Act.put, List.setIfInBounds_toArray, List.set_cons_zero, List.set_cons_succ]
                        refine wpAnyH_done (by kernel_rfl) ?_ _
                        refine NoPanic.normal ?_
                        clear hHeld f0 f1 f2 f3
                        have R_37 := Lib.hid (Kd.R_drew HR3.out)
                        have B_38 := Lib.hid (below_drew HB3.out)
                        obtain ⟨ar2, e0, f0, f1, f2, f3⟩ := at_Ent (Kd.C_below C_33.out B_38.out) hlj
                        cases e0
                        rw [HYL.out] at f0 f1 f2 f3
                        have b2 := (blk_cell ((B_38.out.block _ (blk_lt H_32.out)).trans H_32.out) 2).trans rfl
                        by_cases he : Y.key = X.key
                        · have k3 := beq_same he
                          rw [if_pos he] at hpl
                          have HPM := Lib.hid hpl
                          clear hpl he
                          go_wp2_with fail
                          refine wp_region_noPanic ?_
                          refine wp_region_held_drew (S := fun W => W.cell? (ar.add (k2 * 4)) = some (.string Y.key) ∧ W.cell? ⟨xb, 2, none⟩ = some (.string X.key)) (by kernel_rfl) (⟨f0, b2⟩) (fun hHeld => ?_)
                          refine wTake 0 ?_
                          refine wTake 1 ?_
                          refine wTake 2 ?_
                          refine wTake 3 ?_
                          refine wTake 4 ?_
                          refine wTake 5 ?_
                          refine wTake 6 ?_
                          refine wTake 7 ?_
                          try simp only [Act.put, List.setIfInBounds_toArray, List.set_cons_zero, List.set_cons_succ]
                          refine wpAnyH_done (by kernel_rfl) ?_ _
                          refine NoPanic.normal ?_
                          clear hHeld
                          go_wp2
                          go_roundw
                          case rel => exact ⟨k2 + 1, true, _, by omega, by go_num, rfl, by omega, HPM, Lib.hid (below_drew B_38.out), Lib.hid (Kd.R_drew R_37.out)⟩
                          case measure => simp [intOf] <;> omega
                        · have k3 := beq_ne he
                          rw [if_neg he] at hpl
                          have HPM := Lib.hid hpl
                          clear hpl he
                          go_wp2_with fail
                          refine wp_region_noPanic ?_
                          refine wp_region_held_drew (S := fun W => W.cell? (ar.add (k2 * 4)) = some (.string Y.key) ∧ W.cell? ⟨xb, 2, none⟩ = some (.string X.key)) (by kernel_rfl) (⟨f0, b2⟩) (fun hHeld => ?_)
                          refine wTake 0 ?_
                          refine wTake 1 ?_
                          refine wTake 2 ?_
                          refine wTake 3 ?_
                          refine wTake 4 ?_
                          refine wTake 5 ?_
                          refine wTake 6 ?_
                          refine wTake 7 ?_
                          try simp only [Act.put, List.setIfInBounds_toArray, List.set_cons_zero, List.set_cons_succ]
                          refine wpAnyH_done (by kernel_rfl) ?_ _
                          refine NoPanic.normal ?_
                          clear hHeld
                          have c0 : wr.drew.drew.cell? (ar.add (k2 * 4)) = _ := f0
                          have c1 : wr.drew.drew.cell? ⟨(ar.add (k2 * 4)).block, (ar.add (k2 * 4)).off + 1, none⟩ = _ := f1
                          have c2 : wr.drew.drew.cell? ⟨(ar.add (k2 * 4)).block, (ar.add (k2 * 4)).off + 2, none⟩ = _ := f2
                          have c3 : wr.drew.drew.cell? ⟨(ar.add (k2 * 4)).block, (ar.add (k2 * 4)).off + 3, none⟩ = _ := f3
                          go_wp2_with (at_builtin; refine Kd.R_append kEnt (w0 := wr.drew.drew) wq.heap.size rfl (.tmp 141) (.tmp 146) 52 62 (.agg #[.string ⟨#[]⟩, .string ⟨#[]⟩, .int .i64 0, .int .i64 0]) 48 rfl Try.underlying52 infoEnt rfl (by decide) (by omega) _ _ Y [.string Y.key, .string Y.val, .int .i64 Y.made, .int .i64 Y.mod] (fun _ => True) (fun _ => False) rfl rfl (kEnt_mkM _ _ _ _) (fun _ hk => hk.elim) (fun _ _ => trivial) (Kd.R_drew R_37.out) (Below.refl _ _) (below_drew B_38.out).size (by (try simp only [List.length_append, List.length_singleton]); omega) ?_; intro v1 wz ho hb hg _)
                          go_roundw
                          case rel => exact ⟨k2 + 1, true, _, by omega, by go_num, rfl, by (simp only [List.length_append, List.length_singleton]; omega), Lib.hid (by rw [List.append_assoc]; exact HPM.out), Lib.hid ((below_drew B_38.out).trans hb), Lib.hid ho⟩
                          case measure => simp [intOf] <;> omega
                    · obtain rfl : k2 = j := by omega
                      have hpl := HPL.out
                      rw [List.drop_of_length_le (by rw [HNL.out]; exact Nat.le_refl _), putLoop] at hpl
                      rw [← HFT.out] at hpl
                      have HX3 := Lib.hid ((HB3.out.block _ (blk_lt H_32.out)).trans H_32.out)
                      have B4 := Lib.hid (below_next0 B_36.out HB3.out)
                      clear hkn HPL
                      cases dd
                      · simp only [Bool.false_eq_true, if_false] at hpl
                        have HPM := Lib.hid hpl
                        clear hpl
                        have b0 := blk_cell HX3.out 0
                        have b1 := blk_cell HX3.out 1
                        have b2 := blk_cell HX3.out 2
                        have b3 := blk_cell HX3.out 3
                        simp only [List.getElem?_toArray, List.getElem?_cons_zero, List.getElem?_cons_succ] at b0 b1 b2 b3
                        have bl := blk_lt HX3.out
                        go_wp2_with (at_builtin; refine Kd.R_append kEnt (w0 := wr) wq.heap.size rfl (.tmp 150) (.tmp 159) 52 62 (.agg #[.string ⟨#[]⟩, .string ⟨#[]⟩, .int .i64 0, .int .i64 0]) 48 rfl Try.underlying52 infoEnt rfl (by decide) (by omega) _ _ (⟨X.key, X.val, md, X.rev⟩ : Ent) [.string X.key, .string X.val, .int .i64 md, .int .i64 X.rev] (fun _ => True) (fun _ => False) rfl rfl (kEnt_mkM _ _ _ _) (fun _ hk => hk.elim) (fun _ _ => trivial) HR3.out (Below.refl _ _) HB3.out.size (by omega) ?_; intro v1 wz ho hb hg _)
                        clear b0 b1 b2 b3 bl
                        obtain ⟨zA, zc, hz, hzl, hzC⟩ := Kd.R_reads ho
                        have HZC := Lib.hid hzC
                        subst hz
                        clear hzC
                        go_roundw
                        case rel => exact ⟨k + 1, zA, _, zc, X.rev, by omega, by go_num, rfl, rfl, hzl, by rw [← HPM.out]; exact Lib.hid rfl, HQ3, by rw [← HPM.out]; exact HZC, Lib.hid (B4.out.trans (hb.mono B_36.out.size))⟩
                        case measure => simp [intOf] <;> omega
                      · simp only [if_true, List.append_nil] at hpl
                        have HPM := Lib.hid hpl
                        clear hpl
                        obtain ⟨zA, zc, hz, hzl, hzC⟩ := Kd.R_reads HR3.out
                        have HZC := Lib.hid hzC
                        subst hz
                        clear hzC
                        go_wp2
                        go_roundw
                        case rel => exact ⟨k + 1, zA, _, zc, X.rev, by omega, by go_num, rfl, rfl, hzl, by rw [← HPM.out]; exact Lib.hid rfl, HQ3, by rw [← HPM.out]; exact HZC, B4⟩
                        case measure => simp [intOf] <;> omega
            · obtain rfl : k = ne := by omega
              rw [List.take_of_length_le (by rw [HNE.out]; exact Nat.le_refl _), HEA.out] at HN HCa
              clear hlt
              go_wp2_with fail
              refine (list_any g tg (MA) adg cg wr (Ag_15.out.below HB.out) ⟨#[]⟩ hbA.1).mono ?_
              rintro e w8 ⟨V, rfl, hR, hb⟩
              rw [listL_nil] at hR
              try dsimp only at hR
              obtain ⟨zA, zc, rfl, zl, hC⟩ := Kd.R_reads hR
              have Ag_19 := Lib.hid ((Ag_15.out.below HB.out).below hb)
              have Ca_20 := Lib.hid (Kd.C_below HCa.out hb)
              have B_21 := Lib.hid (below_next0 HB.out hb)
              have Cz_22 := Lib.hid (hC)
              clear hR hC hb
              go_wp2_with fail
              have hnn := HN.out
              subst hnn
              refine (entries_same MA.row _ _ _ _ w8 hnc zl Ca_20.out Cz_22.out hbA.1).mono ?_
              rintro e w9 ⟨rfl, hb⟩
              have Ag_23 := Lib.hid (Ag_19.out.below hb)
              have B_24 := Lib.hid (below_next0 B_21.out hb)
              clear hb
              go_wp2
              go_ret
              exact ⟨by first | rfl | (simp; done), below_next0 B_17.out B_24.out⟩
    · go_enter Try.func4, Try.ntmps4
      go_wp2_with fail
      refine (HW.out _ _ _ hc (Kd.C_below HC.out (Below.refl w.heap.size w))).mono ?_
      rintro e w1 ⟨rfl, hb⟩
      have B_1 := Lib.hid (below_next0 (Below.refl w.heap.size w) hb)
      clear hb
      go_wp2_with fail
      refine (HW2.out _ _ _ hc2 (Kd.C_below HC2.out B_1.out)).mono ?_
      rintro e w2 ⟨rfl, hb⟩
      have B_2 := Lib.hid (below_next0 B_1.out hb)
      clear hb
      go_wp2_with fail
      refine (treeAwake_any w2).mono ?_
      rintro e w3 ⟨rfl, hb⟩
      have B_3 := Lib.hid (below_next0 B_2.out hb)
      clear hb
      go_wp2
      go_ret
      exact ⟨rfl, B_3.out⟩
  · go_enter Try.func4, Try.ntmps4
    go_wp2_with fail
    refine (HW.out _ _ _ hc (Kd.C_below HC.out (Below.refl w.heap.size w))).mono ?_
    rintro e w1 ⟨rfl, hb⟩
    have B_1 := Lib.hid (below_next0 (Below.refl w.heap.size w) hb)
    clear hb
    go_wp2_with fail
    refine (treeAwake_any w1).mono ?_
    rintro e w2 ⟨rfl, hb⟩
    have B_2 := Lib.hid (below_next0 B_1.out hb)
    clear hb
    go_wp2
    go_ret
    exact ⟨rfl, B_2.out⟩
end Go.Proofs.Ytobanhbjkomieaa.TA
