import Derived.Test.YtobanhbjkomieaaUCSb
namespace Go.Proofs.Ytobanhbjkomieaa.TA
open Go Go.RowKit Go.Proofs.Ytobanhbjkomieaa.KP Go.Proofs.YtobanhbjkomieaaW.PrintWords Go.Proofs.YtobanhbjkomieaaW.PrintLast Go.Proofs.YtobanhbjkomieaaW.PrintMore
open Go.Proofs.Ytobanhbjkomieaa.RP (wTake wSkip wOne wpAnyH_cast below_next0)
set_option linter.unusedSimpArgs false
set_option linter.unusedVariables false
attribute [local go_sem high] EQ.eqA62
theorem add_zeroA (a : Addr) : a.add 0 = a := by unfold Addr.add; rfl
theorem listL_snoc {p : ByteArray} {l : List Ent} {x : Ent} : listL p (l ++ [x]) = listL p l ++ (if p.data.toList.isPrefixOf x.key.data.toList = true then [x] else []) := by
  unfold listL
  rw [List.filter_append]
  congr 1
  rw [List.filter_cons]
  rfl
theorem listL_le (p : ByteArray) (l : List Ent) : (listL p l).length ≤ l.length := List.length_filter_le _ _
theorem key_facts {l : List Ent} (h : Srt l) {i j : Nat} (hij : i < j) (hj : j < l.length) : Op.bytesLess (l[i]'(by omega)).key.toList l[j].key.toList = true ∧ Op.bytesLess l[j].key.toList (l[i]'(by omega)).key.toList = false ∧ (l[j].key.toList == (l[i]'(by omega)).key.toList) = false := by
  have h1 := srt_at h hij hj
  exact ⟨h1, lt_asymm h1, beq_ne (lt_ne h1).symm⟩
set_option maxHeartbeats 16000000 in
set_option maxRecDepth 100000 in
theorem TreeLists_walk (A : Option Addr) (c : Nat) (l : List TxP) (p : ByteArray) (w : World) (hc : l.length ≤ c) (hC : Kd.C PTr.k34 w A l.length l) (ok : (∀ x ∈ l, okX x) ∧ l.length ≤ maxLen) (hp0 : p.size ≤ 140737488351232) :
    Calls Try.prog 5 #[.slice A l.length c, .string p] w fun e w' => e = .returned (.bool true) ∧ Below w.heap.size w w' := by
  obtain ⟨b, hb5, hw⟩ := wide_any l ok.2 ok.1
  have HC := Lib.hid hC
  have HX := Lib.hid ok.1
  have HW := Lib.hid hw
  clear hC ok hw
  cases b
  · have h5 := hb5 rfl
    clear hb5
    obtain ⟨M, hM⟩ : ∃ M, run may (l.map toX) Md.new = M := ⟨_, rfl⟩
    have HM := Lib.hid hM
    have hg := gr_run (l.map toX)
    rw [hM, List.length_map] at hg
    have HGr := Lib.hid hg
    have hw : wrap64 (M.rev + 1) = M.rev + 1 := by have := hg.rev; unfold wrap64; omega
    have hbM : M.row.length ≤ 100000000 ∧ M.hap.length ≤ 100000000 := by have h1 := hg.row; have h2 := hg.hap; omega
    have hb2M : (M.row.length ≤ 1000000000 ∧ M.row.length ≤ 1000000000) ∧ (M.hap.length ≤ 1000000000 ∧ M.hap.length ≤ 1000000000) := by omega
    clear hM hg
    have hrv := HGr.out.rev
    by_cases hp : 1000 < p.size
    · have hpi : (1000 : Int) < (p.size : Int) := by omega
      go_enter Try.func5, Try.ntmps5
      go_wp2_with fail
      refine (HW.out _ _ _ hc (Kd.C_below HC.out (Below.refl w.heap.size w))).mono ?_
      rintro e w1 ⟨rfl, hb⟩
      have B_1 := Lib.hid (below_next0 (Below.refl w.heap.size w) hb)
      clear hb
      go_wp2_with fail
      refine (treeAwake_any w1).mono ?_
      rintro e w2 ⟨rfl, hb⟩
      have B_2 := Lib.hid (below_next0 B_1.out hb)
      clear hb
      go_wp2
      go_ret
      exact ⟨rfl, B_2.out⟩
    · have hpi : (p.size : Int) ≤ 1000 := by omega
      go_enter Try.func5, Try.ntmps5
      go_wp2_with fail
      refine (HW.out _ _ _ hc (Kd.C_below HC.out (Below.refl w.heap.size w))).mono ?_
      rintro e w1 ⟨rfl, hb⟩
      have B_1 := Lib.hid (below_next0 (Below.refl w.heap.size w) hb)
      clear hb
      go_wp2_with fail
      refine (treeAwake_any w1).mono ?_
      rintro e w2 ⟨rfl, hb⟩
      have B_2 := Lib.hid (below_next0 B_1.out hb)
      clear hb
      go_wp2_with fail
      refine (grown_any A c l w2 hc (Kd.C_below HC.out B_2.out) HX.out h5).mono ?_
      rintro e w3 ⟨g, t_3, ad_4, c_5, rfl, hg, hA, hb⟩
      have Gg_6 := Lib.hid (Nat.le_trans B_2.out.size hg)
      have B_7 := Lib.hid (below_next0 B_2.out hb)
      rw [HM.out] at hA
      have Ag_8 := Lib.hid (hA)
      clear hg hA hb
      go_wp2_with fail
      refine (list_any g t_3 (M) ad_4 c_5 w3 Ag_8.out ⟨#[]⟩ hb2M.1.1).mono ?_
      rintro e w4 ⟨V, rfl, hR, hb⟩
      rw [listL_nil] at hR
      try dsimp only at hR
      obtain ⟨rA, rc, rfl, rl, hC⟩ := Kd.R_reads hR
      have Ag_9 := Lib.hid (Ag_8.out.below hb)
      have B_10 := Lib.hid (below_next0 B_7.out hb)
      have Cr_11 := Lib.hid (hC)
      clear hR hC hb
      go_wp2_with fail
      obtain ⟨n, hn⟩ : ∃ n, M.row.length = n := ⟨_, rfl⟩
      have HNL := Lib.hid hn
      have hn1 : n ≤ 1000000 := by (have := HGr.out.row; omega)
      rw [hn]
      clear hn
      go_loopw [7, 8] (fun sv i wr => ∃ k : Nat, k ≤ n ∧ i = .int .i64 k ∧ Hid (Below w4.heap.size w4 wr) ∧ Hid (kEnt.R 62 wr w4.heap.size (fun _ => True) sv (listL p (M.row.take k)))) (fun _ i _ => n - (intOf i).toNat)
      case atStart => exact ⟨0, by omega, rfl, Lib.hid (Below.refl _ _), Lib.hid (Kd.R_nil _ _ _ _ _)⟩
      case round =>
        obtain ⟨k, hk, rfl, HB, HR⟩ := hrel
        by_cases hlt : k < n
        · have hlk : k < M.row.length := by (rw [HNL.out]; exact hlt)
          have i0 : (0 : Int) ≤ (k : Int) := by omega
          have i1 : (k : Int) < (n : Int) := by omega
          obtain ⟨ab, e0, f0, f1, f2, f3⟩ := at_Ent (Kd.C_below Cr_11.out HB.out) hlk
          cases e0
          have hget := srt_get HGr.out.ok.srt (List.getElem_mem hlk)
          have hmade := HGr.out.ok.made _ (List.getElem_mem hlk)
          have HSN := True.intro
          obtain ⟨x, hx⟩ : ∃ x, M.row[k] = x := ⟨_, rfl⟩
          have hsn : listL p (M.row.take (k + 1)) = listL p (M.row.take k) ++ (if p.data.toList.isPrefixOf x.key.data.toList = true then [x] else []) := by (rw [take_snoc hlk, hx]; exact listL_snoc)
          clear HSN
          have HSN := Lib.hid hsn
          clear hsn
          have HKX := Lib.hid hx
          rw [hx] at f0 f1 f2 f3 hget hmade
          have hcall := treeGet_any g t_3 (M) ad_4 c_5 wr (Ag_9.out.below HB.out) x.key
          rw [show getD x.key M.row = x from by unfold getD; rw [hget]; rfl, hget] at hcall
          have HGT := Lib.hid hcall
          have HMD := Lib.hid hmade
          clear hcall hget hx hmade
          go_wp2_with fail
          clear f0 f1 f2 f3
          refine HGT.out.mono ?_
          rintro e w5 ⟨rfl, hb⟩
          have C_12 := Lib.hid (Kd.C_below Cr_11.out HB.out)
          have A_13 := Lib.hid ((Ag_9.out.below HB.out))
          have Ag_14 := Lib.hid (A_13.out.below hb)
          have Cr_15 := Lib.hid (Kd.C_below C_12.out hb)
          have Rs_16 := Lib.hid (Kd.R_below HR.out hb)
          have B_17 := Lib.hid (below_next0 HB.out hb)
          clear hb
          simp only [entV]
          go_wp2_with fail
          obtain ⟨xb, hxb⟩ : ∃ X, X = w5.heap.size := ⟨_, rfl⟩
          try rw [← hxb]
          have hb : Below w5.heap.size w5 (w5.alloc (.cells #[.string x.key, .string x.val, .int .i64 x.made, .int .i64 x.mod] 62)) := below_alloc (Below.refl _ _) _
          have hN : (w5.alloc (.cells #[.string x.key, .string x.val, .int .i64 x.made, .int .i64 x.mod] 62)).heap[xb]? = some (.cells #[.string x.key, .string x.val, .int .i64 x.made, .int .i64 x.mod] 62 (0, 0)) := hxb ▸ heap_alloc_new w5 (.cells #[.string x.key, .string x.val, .int .i64 x.made, .int .i64 x.mod] 62)
          clear hxb
          generalize w5.alloc (.cells #[.string x.key, .string x.val, .int .i64 x.made, .int .i64 x.mod] 62) = w6 at *
          have Ag_18 := Lib.hid (Ag_14.out.below hb)
          have Cr_19 := Lib.hid (Kd.C_below Cr_15.out hb)
          have Rs_20 := Lib.hid (Kd.R_below Rs_16.out hb)
          have B_21 := Lib.hid (below_next0 B_17.out hb)
          clear hb
          have Hxb_22 := Lib.hid (hN)
          clear hN
          by_cases hz : 0 < k
          · obtain ⟨j, hjk⟩ : ∃ j, k = j + 1 := ⟨k - 1, by omega⟩
            have hlj : j < M.row.length := by omega
            obtain ⟨kf1, kf2, kf3⟩ := key_facts HGr.out.ok.srt (show j < k by omega) hlk
            rw [HKX.out] at kf1 kf2 kf3
            have ej : (k : Int) - 1 = (j : Int) := by omega
            have ip : (0 : Int) < (k : Int) := by omega
            clear hz
            have j0 : (0 : Int) ≤ (j : Int) := by omega
            have j1 : (j : Int) < (n : Int) := by omega
            have wj : IntKind.i64.wrap (j : Int) = (j : Int) := by (rw [i64_w]; unfold wrap64; omega)
            obtain ⟨ab2, e0, g0, _, _, _⟩ := at_Ent Cr_19.out hlj
            cases e0
            have kg1 : Op.bytesLess M.row[j].key.toList x.key.toList = true := kf1
            have kg2 : Op.bytesLess x.key.toList M.row[j].key.toList = false := kf2
            have kg3 : (x.key.toList == M.row[j].key.toList) = false := kf3
            clear kf1 kf2 kf3 hjk
            obtain ⟨ab3, e0, f0, f1, f2, f3⟩ := at_Ent Cr_19.out hlk
            cases e0
            rw [HKX.out] at f0 f1 f2 f3
            have hmd1 := HMD.out.1
            have hmd2 := HMD.out.2.1
            have hmd3 := HMD.out.2.2
            refine wp_region_noPanic ?_
            refine wp_region_held_drew (S := fun W => W.cell? ⟨xb, 0, none⟩ = some (.string x.key) ∧ W.cell? ⟨xb, 1, none⟩ = some (.string x.val) ∧ W.cell? ⟨xb, 2, none⟩ = some (.int .i64 x.made) ∧ W.cell? ⟨xb, 3, none⟩ = some (.int .i64 x.mod) ∧ W.cell? (ab.add (k * 4)) = some (.string x.key) ∧ W.cell? ⟨(ab.add (k * 4)).block, (ab.add (k * 4)).off + 1, none⟩ = some (.string x.val) ∧ W.cell? ⟨(ab.add (k * 4)).block, (ab.add (k * 4)).off + 2, none⟩ = some (.int .i64 x.made) ∧ W.cell? ⟨(ab.add (k * 4)).block, (ab.add (k * 4)).off + 3, none⟩ = some (.int .i64 x.mod) ∧ W.cell? (ab.add (j * 4)) = some (.string M.row[j].key)) (by kernel_rfl) (⟨(blk_cell Hxb_22.out 0).trans rfl, (blk_cell Hxb_22.out 1).trans rfl, (blk_cell Hxb_22.out 2).trans rfl, (blk_cell Hxb_22.out 3).trans rfl, f0, f1, f2, f3, g0⟩) (fun hHeld => ?_)
            refine wTake 0 ?_
            refine wTake 1 ?_
            refine wTake 2 ?_
            try simp only [Act.put, List.setIfInBounds_toArray, List.set_cons_zero, List.set_cons_succ]
            refine wTake 3 ?_
            try simp only [Act.put, List.setIfInBounds_toArray, List.set_cons_zero, List.set_cons_succ]
            refine wTake 4 ?_
            try simp only [Act.put, List.setIfInBounds_toArray, List.set_cons_zero, List.set_cons_succ]
            refine wTake 5 ?_
            try simp only [Act.put, List.setIfInBounds_toArray, List.set_cons_zero, List.set_cons_succ]
            refine wTake 6 ?_
            try simp only [Act.put, List.setIfInBounds_toArray, List.set_cons_zero, List.set_cons_succ]
            refine wTake 7 ?_
            try simp only [Act.put, List.setIfInBounds_toArray, List.set_cons_zero, List.set_cons_succ]
            refine wTake 8 ?_
            refine wTake 9 ?_
            refine wTake 10 ?_
            try simp only [Act.put, List.setIfInBounds_toArray, List.set_cons_zero, List.set_cons_succ]
            refine wTake 11 ?_
            try simp only [Act.put, List.setIfInBounds_toArray, List.set_cons_zero, List.set_cons_succ]
            refine wTake 12 ?_
            try simp only [Act.put, List.setIfInBounds_toArray, List.set_cons_zero, List.set_cons_succ]
            try simp only [decide_eq_true (show (0 : Int) < (k : Int) by omega)]
            try simp only [decide_eq_true (show 0 < k by omega)]
            try simp only [gt_iff_lt, decide_eq_true ip]
            refine wTake 13 ?_
            try simp only [Act.put, List.setIfInBounds_toArray, List.set_cons_zero, List.set_cons_succ]
            refine wTake 14 ?_
            try simp only [Act.put, List.setIfInBounds_toArray, List.set_cons_zero, List.set_cons_succ]
            refine wTake 15 ?_
            try simp only [Act.put, List.setIfInBounds_toArray, List.set_cons_zero, List.set_cons_succ]
            refine wTake 16 ?_
            try simp only [Act.put, List.setIfInBounds_toArray, List.set_cons_zero, List.set_cons_succ]
            refine wTake 17 ?_
            try simp only [Act.put, List.setIfInBounds_toArray, List.set_cons_zero, List.set_cons_succ]
            refine wTake 18 ?_
            try simp only [Act.put, List.setIfInBounds_toArray, List.set_cons_zero, List.set_cons_succ]
            refine wTake 19 ?_
            try simp only [Act.put, List.setIfInBounds_toArray, List.set_cons_zero, List.set_cons_succ]
            refine wTake 20 ?_
            try simp only [Act.put, List.setIfInBounds_toArray, List.set_cons_zero, List.set_cons_succ]
            refine wTake 21 ?_
            try simp only [Act.put, List.setIfInBounds_toArray, List.set_cons_zero, List.set_cons_succ]
            refine wTake 22 ?_
            try simp only [Act.put, List.setIfInBounds_toArray, List.set_cons_zero, List.set_cons_succ]
            refine wTake 23 ?_
            try simp only [Act.put, List.setIfInBounds_toArray, List.set_cons_zero, List.set_cons_succ]
            refine wTake 24 ?_
            try simp only [Act.put, List.setIfInBounds_toArray, List.set_cons_zero, List.set_cons_succ]
            refine wTake 25 ?_
            try simp only [Act.put, List.setIfInBounds_toArray, List.set_cons_zero, List.set_cons_succ]
            refine wTake 26 ?_
            refine wTake 27 ?_
            refine wTake 28 ?_
            try simp only [Act.put, List.setIfInBounds_toArray, List.set_cons_zero, List.set_cons_succ]
            refine wTake 29 ?_
            try simp only [Act.put, List.setIfInBounds_toArray, List.set_cons_zero, List.set_cons_succ]
            refine wTake 30 ?_
            try simp only [Act.put, List.setIfInBounds_toArray, List.set_cons_zero, List.set_cons_succ]
            refine wTake 31 ?_
            try simp only [Act.put, List.setIfInBounds_toArray, List.set_cons_zero, List.set_cons_succ]
            try simp only [decide_eq_false (show ¬ x.made < 1 by omega)]
            refine wTake 32 ?_
            refine wTake 33 ?_
            try simp only [Act.put, List.setIfInBounds_toArray, List.set_cons_zero, List.set_cons_succ]
            refine wTake 34 ?_
            try simp only [Act.put, List.setIfInBounds_toArray, List.set_cons_zero, List.set_cons_succ]
            refine wTake 35 ?_
            try simp only [Act.put, List.setIfInBounds_toArray, List.set_cons_zero, List.set_cons_succ]
            refine wTake 36 ?_
            try simp only [Act.put, List.setIfInBounds_toArray, List.set_cons_zero, List.set_cons_succ]
            refine wTake 37 ?_
            try simp only [Act.put, List.setIfInBounds_toArray, List.set_cons_zero, List.set_cons_succ]
            refine wTake 38 ?_
            try simp only [Act.put, List.setIfInBounds_toArray, List.set_cons_zero, List.set_cons_succ]
            try simp only [decide_eq_false (show ¬ x.mod < x.made by omega)]
            refine wTake 39 ?_
            refine wTake 40 ?_
            try simp only [Act.put, List.setIfInBounds_toArray, List.set_cons_zero, List.set_cons_succ]
            refine wTake 41 ?_
            try simp only [Act.put, List.setIfInBounds_toArray, List.set_cons_zero, List.set_cons_succ]
            refine wTake 42 ?_
            try simp only [Act.put, List.setIfInBounds_toArray, List.set_cons_zero, List.set_cons_succ]
            refine wTake 43 ?_
            try simp only [Act.put, List.setIfInBounds_toArray, List.set_cons_zero, List.set_cons_succ]
            refine wpAnyH_ready (rs := [44]) (by kernel_rfl) (by simp) (AllReadyH.cons rfl (fun K hK => ?_) AllReadyH.nil)
            go_simp
            refine (rev_any g t_3 (M) ad_4 c_5 w6.drew (Ag_18.out.below (Below.refl _ _).drew)).mono ?_
            rintro e w7 ⟨rfl, hb⟩
            have hbd : Below w6.heap.size w6 w7 := below_next0 (Below.refl _ _).drew hb
            have hs' : (fun W => W.cell? ⟨xb, 0, none⟩ = some (.string x.key) ∧ W.cell? ⟨xb, 1, none⟩ = some (.string x.val) ∧ W.cell? ⟨xb, 2, none⟩ = some (.int .i64 x.made) ∧ W.cell? ⟨xb, 3, none⟩ = some (.int .i64 x.mod) ∧ W.cell? (ab.add (k * 4)) = some (.string x.key) ∧ W.cell? ⟨(ab.add (k * 4)).block, (ab.add (k * 4)).off + 1, none⟩ = some (.string x.val) ∧ W.cell? ⟨(ab.add (k * 4)).block, (ab.add (k * 4)).off + 2, none⟩ = some (.int .i64 x.made) ∧ W.cell? ⟨(ab.add (k * 4)).block, (ab.add (k * 4)).off + 3, none⟩ = some (.int .i64 x.mod) ∧ W.cell? (ab.add (j * 4)) = some (.string M.row[j].key)) w7 := ⟨(blk_cell ((hbd.block _ (blk_lt Hxb_22.out)).trans Hxb_22.out) 0).trans rfl, (blk_cell ((hbd.block _ (blk_lt Hxb_22.out)).trans Hxb_22.out) 1).trans rfl, (blk_cell ((hbd.block _ (blk_lt Hxb_22.out)).trans Hxb_22.out) 2).trans rfl, (blk_cell ((hbd.block _ (blk_lt Hxb_22.out)).trans Hxb_22.out) 3).trans rfl, (hbd.cell (World.block_lt_of_cell? _ _ f0)).trans f0, (hbd.cell (World.block_lt_of_cell? _ _ f1)).trans f1, (hbd.cell (World.block_lt_of_cell? _ _ f2)).trans f2, (hbd.cell (World.block_lt_of_cell? _ _ f3)).trans f3, (hbd.cell (World.block_lt_of_cell? _ _ g0)).trans g0⟩
            go_wp2_with fail
            refine hK.out _ _ hs' (fun hHeld => ?_)
            clear hK K
            try simp only [Act.put, List.setIfInBounds_toArray, List.set_cons_zero, List.set_cons_succ]
            refine wTake 45 ?_
            try simp only [Act.put, List.setIfInBounds_toArray, List.set_cons_zero, List.set_cons_succ]
            try simp only [decide_eq_false (show ¬ M.rev < x.mod by omega)]
            refine wTake 46 ?_
            try simp only [Act.put, List.setIfInBounds_toArray, List.set_cons_zero, List.set_cons_succ]
            refine wpAnyH_done (by kernel_rfl) ?_ _
            refine NoPanic.normal ?_
            clear hHeld hs' hb f0 f1 f2 f3 g0
            have Ag_23 := Lib.hid (Ag_18.out.below hbd)
            have Cr_24 := Lib.hid (Kd.C_below Cr_19.out hbd)
            have Hxb_25 := Lib.hid ((hbd.block _ (blk_lt Hxb_22.out)).trans Hxb_22.out)
            have Rs_26 := Lib.hid (Kd.R_below Rs_20.out hbd)
            have B_27 := Lib.hid (below_next0 B_21.out hbd)
            clear hbd
            obtain ⟨ab4, e0, f0, f1, f2, f3⟩ := at_Ent Cr_24.out hlk
            cases e0
            rw [HKX.out] at f0 f1 f2 f3
            go_wp2_with fail
            clear f0 f1 f2 f3
            refine (treeBegins_any x.key p w7).mono ?_
            rintro e w8 ⟨rfl, hb⟩
            have Ag_28 := Lib.hid (Ag_23.out.below hb)
            have Cr_29 := Lib.hid (Kd.C_below Cr_24.out hb)
            have Hxb_30 := Lib.hid ((hb.block _ (blk_lt Hxb_25.out)).trans Hxb_25.out)
            have Rs_31 := Lib.hid (Kd.R_below Rs_26.out hb)
            have B_32 := Lib.hid (below_next0 B_27.out hb)
            clear hb
            have hsn := HSN.out
            cases hbg : p.data.toList.isPrefixOf x.key.data.toList
            · rw [hbg] at hsn
              simp only [Bool.false_eq_true, if_false, List.append_nil] at hsn
              have HSM := Lib.hid hsn
              clear hsn hbg HSN
              go_wp2
              go_roundw
              case rel => exact ⟨k + 1, by omega, by go_num, Lib.hid B_32.out, by rw [HSM.out]; exact Lib.hid Rs_31.out⟩
              case measure => simp [intOf] <;> omega
            · rw [hbg] at hsn
              simp only [if_true] at hsn
              have HSM := Lib.hid hsn
              clear hsn hbg HSN
              obtain ⟨ab5, e0, f0, f1, f2, f3⟩ := at_Ent Cr_29.out hlk
              cases e0
              rw [HKX.out] at f0 f1 f2 f3
              have hbd1 : (listL p (M.row.take k)).length ≤ 1000000 := by (have h1 := listL_le p (M.row.take k); rw [List.length_take] at h1; omega)
              go_wp2_with (at_builtin; refine Kd.R_append kEnt (w0 := w8) w4.heap.size rfl (.tmp 97) (.tmp 102) 52 62 (.agg #[.string ⟨#[]⟩, .string ⟨#[]⟩, .int .i64 0, .int .i64 0]) 48 rfl Try.underlying52 infoEnt rfl (by decide) (by omega) _ _ x [.string x.key, .string x.val, .int .i64 x.made, .int .i64 x.mod] (fun _ => True) (fun _ => False) rfl rfl (kEnt_mkM _ _ _ _) (fun _ hk => hk.elim) (fun _ _ => trivial) Rs_31.out (Below.refl _ _) B_32.out.size (by omega) ?_; intro v1 wz ho hb hg _)
              go_roundw
              case rel => exact ⟨k + 1, by omega, by go_num, Lib.hid (B_32.out.trans hb), by rw [HSM.out]; exact Lib.hid ho⟩
              case measure => simp [intOf] <;> omega
          · obtain rfl : k = 0 := by omega
            obtain ⟨ab3, e0, f0, f1, f2, f3⟩ := at_Ent Cr_19.out hlk
            cases e0
            rw [HKX.out] at f0 f1 f2 f3
            simp only [Nat.zero_mul, add_zeroA] at f0 f1 f2 f3
            have hmd1 := HMD.out.1
            have hmd2 := HMD.out.2.1
            have hmd3 := HMD.out.2.2
            refine wp_region_noPanic ?_
            refine wp_region_held_drew (S := fun W => W.cell? ⟨xb, 0, none⟩ = some (.string x.key) ∧ W.cell? ⟨xb, 1, none⟩ = some (.string x.val) ∧ W.cell? ⟨xb, 2, none⟩ = some (.int .i64 x.made) ∧ W.cell? ⟨xb, 3, none⟩ = some (.int .i64 x.mod) ∧ W.cell? ab = some (.string x.key) ∧ W.cell? ⟨ab.block, ab.off + 1, none⟩ = some (.string x.val) ∧ W.cell? ⟨ab.block, ab.off + 2, none⟩ = some (.int .i64 x.made) ∧ W.cell? ⟨ab.block, ab.off + 3, none⟩ = some (.int .i64 x.mod)) (by kernel_rfl) (⟨(blk_cell Hxb_22.out 0).trans rfl, (blk_cell Hxb_22.out 1).trans rfl, (blk_cell Hxb_22.out 2).trans rfl, (blk_cell Hxb_22.out 3).trans rfl, f0, f1, f2, f3⟩) (fun hHeld => ?_)
            refine wTake 0 ?_
            refine wTake 1 ?_
            refine wTake 2 ?_
            try simp only [Act.put, List.setIfInBounds_toArray, List.set_cons_zero, List.set_cons_succ]
            refine wTake 3 ?_
            try simp only [Act.put, List.setIfInBounds_toArray, List.set_cons_zero, List.set_cons_succ]
            refine wTake 4 ?_
            try simp only [Act.put, List.setIfInBounds_toArray, List.set_cons_zero, List.set_cons_succ]
            refine wTake 5 ?_
            try simp only [Act.put, List.setIfInBounds_toArray, List.set_cons_zero, List.set_cons_succ]
            refine wTake 6 ?_
            try simp only [Act.put, List.setIfInBounds_toArray, List.set_cons_zero, List.set_cons_succ]
            refine wTake 7 ?_
            try simp only [Act.put, List.setIfInBounds_toArray, List.set_cons_zero, List.set_cons_succ]
            refine wTake 8 ?_
            refine wTake 9 ?_
            refine wTake 10 ?_
            try simp only [Act.put, List.setIfInBounds_toArray, List.set_cons_zero, List.set_cons_succ]
            refine wTake 11 ?_
            try simp only [Act.put, List.setIfInBounds_toArray, List.set_cons_zero, List.set_cons_succ]
            refine wTake 12 ?_
            try simp only [Act.put, List.setIfInBounds_toArray, List.set_cons_zero, List.set_cons_succ]
            refine wTake 13 ?_
            try simp only [Act.put, List.setIfInBounds_toArray, List.set_cons_zero, List.set_cons_succ]
            refine wSkip 14 ?_
            try simp only [Act.put, List.setIfInBounds_toArray, List.set_cons_zero, List.set_cons_succ]
            refine wSkip 15 ?_
            try simp only [Act.put, List.setIfInBounds_toArray, List.set_cons_zero, List.set_cons_succ]
            refine wSkip 16 ?_
            try simp only [Act.put, List.setIfInBounds_toArray, List.set_cons_zero, List.set_cons_succ]
            refine wSkip 17 ?_
            try simp only [Act.put, List.setIfInBounds_toArray, List.set_cons_zero, List.set_cons_succ]
            refine wSkip 18 ?_
            try simp only [Act.put, List.setIfInBounds_toArray, List.set_cons_zero, List.set_cons_succ]
            refine wSkip 19 ?_
            try simp only [Act.put, List.setIfInBounds_toArray, List.set_cons_zero, List.set_cons_succ]
            refine wSkip 20 ?_
            try simp only [Act.put, List.setIfInBounds_toArray, List.set_cons_zero, List.set_cons_succ]
            refine wSkip 21 ?_
            try simp only [Act.put, List.setIfInBounds_toArray, List.set_cons_zero, List.set_cons_succ]
            refine wSkip 22 ?_
            try simp only [Act.put, List.setIfInBounds_toArray, List.set_cons_zero, List.set_cons_succ]
            refine wSkip 23 ?_
            try simp only [Act.put, List.setIfInBounds_toArray, List.set_cons_zero, List.set_cons_succ]
            refine wSkip 24 ?_
            try simp only [Act.put, List.setIfInBounds_toArray, List.set_cons_zero, List.set_cons_succ]
            refine wSkip 25 ?_
            try simp only [Act.put, List.setIfInBounds_toArray, List.set_cons_zero, List.set_cons_succ]
            refine wTake 26 ?_
            refine wTake 27 ?_
            refine wTake 28 ?_
            try simp only [Act.put, List.setIfInBounds_toArray, List.set_cons_zero, List.set_cons_succ]
            refine wTake 29 ?_
            try simp only [Act.put, List.setIfInBounds_toArray, List.set_cons_zero, List.set_cons_succ]
            refine wTake 30 ?_
            try simp only [Act.put, List.setIfInBounds_toArray, List.set_cons_zero, List.set_cons_succ]
            refine wTake 31 ?_
            try simp only [Act.put, List.setIfInBounds_toArray, List.set_cons_zero, List.set_cons_succ]
            try simp only [decide_eq_false (show ¬ x.made < 1 by omega)]
            refine wTake 32 ?_
            refine wTake 33 ?_
            try simp only [Act.put, List.setIfInBounds_toArray, List.set_cons_zero, List.set_cons_succ]
            refine wTake 34 ?_
            try simp only [Act.put, List.setIfInBounds_toArray, List.set_cons_zero, List.set_cons_succ]
            refine wTake 35 ?_
            try simp only [Act.put, List.setIfInBounds_toArray, List.set_cons_zero, List.set_cons_succ]
            refine wTake 36 ?_
            try simp only [Act.put, List.setIfInBounds_toArray, List.set_cons_zero, List.set_cons_succ]
            refine wTake 37 ?_
            try simp only [Act.put, List.setIfInBounds_toArray, List.set_cons_zero, List.set_cons_succ]
            refine wTake 38 ?_
            try simp only [Act.put, List.setIfInBounds_toArray, List.set_cons_zero, List.set_cons_succ]
            try simp only [decide_eq_false (show ¬ x.mod < x.made by omega)]
            refine wTake 39 ?_
            refine wTake 40 ?_
            try simp only [Act.put, List.setIfInBounds_toArray, List.set_cons_zero, List.set_cons_succ]
            refine wTake 41 ?_
            try simp only [Act.put, List.setIfInBounds_toArray, List.set_cons_zero, List.set_cons_succ]
            refine wTake 42 ?_
            try simp only [Act.put, List.setIfInBounds_toArray, List.set_cons_zero, List.set_cons_succ]
            refine wTake 43 ?_
            try simp only [Act.put, List.setIfInBounds_toArray, List.set_cons_zero, List.set_cons_succ]
            refine wpAnyH_ready (rs := [44]) (by kernel_rfl) (by simp) (AllReadyH.cons rfl (fun K hK => ?_) AllReadyH.nil)
            go_simp
            refine (rev_any g t_3 (M) ad_4 c_5 w6.drew (Ag_18.out.below (Below.refl _ _).drew)).mono ?_
            rintro e w7 ⟨rfl, hb⟩
            have hbd : Below w6.heap.size w6 w7 := below_next0 (Below.refl _ _).drew hb
            have hs' : (fun W => W.cell? ⟨xb, 0, none⟩ = some (.string x.key) ∧ W.cell? ⟨xb, 1, none⟩ = some (.string x.val) ∧ W.cell? ⟨xb, 2, none⟩ = some (.int .i64 x.made) ∧ W.cell? ⟨xb, 3, none⟩ = some (.int .i64 x.mod) ∧ W.cell? ab = some (.string x.key) ∧ W.cell? ⟨ab.block, ab.off + 1, none⟩ = some (.string x.val) ∧ W.cell? ⟨ab.block, ab.off + 2, none⟩ = some (.int .i64 x.made) ∧ W.cell? ⟨ab.block, ab.off + 3, none⟩ = some (.int .i64 x.mod)) w7 := ⟨(blk_cell ((hbd.block _ (blk_lt Hxb_22.out)).trans Hxb_22.out) 0).trans rfl, (blk_cell ((hbd.block _ (blk_lt Hxb_22.out)).trans Hxb_22.out) 1).trans rfl, (blk_cell ((hbd.block _ (blk_lt Hxb_22.out)).trans Hxb_22.out) 2).trans rfl, (blk_cell ((hbd.block _ (blk_lt Hxb_22.out)).trans Hxb_22.out) 3).trans rfl, (hbd.cell (World.block_lt_of_cell? _ _ f0)).trans f0, (hbd.cell (World.block_lt_of_cell? _ _ f1)).trans f1, (hbd.cell (World.block_lt_of_cell? _ _ f2)).trans f2, (hbd.cell (World.block_lt_of_cell? _ _ f3)).trans f3⟩
            go_wp2_with fail
            refine hK.out _ _ hs' (fun hHeld => ?_)
            clear hK K
            try simp only [Act.put, List.setIfInBounds_toArray, List.set_cons_zero, List.set_cons_succ]
            refine wTake 45 ?_
            try simp only [Act.put, List.setIfInBounds_toArray, List.set_cons_zero, List.set_cons_succ]
            try simp only [decide_eq_false (show ¬ M.rev < x.mod by omega)]
            refine wTake 46 ?_
            try simp only [Act.put, List.setIfInBounds_toArray, List.set_cons_zero, List.set_cons_succ]
            refine wpAnyH_done (by kernel_rfl) ?_ _
            refine NoPanic.normal ?_
            clear hHeld hs' hb f0 f1 f2 f3
            have Ag_23 := Lib.hid (Ag_18.out.below hbd)
            have Cr_24 := Lib.hid (Kd.C_below Cr_19.out hbd)
            have Hxb_25 := Lib.hid ((hbd.block _ (blk_lt Hxb_22.out)).trans Hxb_22.out)
            have Rs_26 := Lib.hid (Kd.R_below Rs_20.out hbd)
            have B_27 := Lib.hid (below_next0 B_21.out hbd)
            clear hbd
            obtain ⟨ab4, e0, f0, f1, f2, f3⟩ := at_Ent Cr_24.out hlk
            cases e0
            rw [HKX.out] at f0 f1 f2 f3
            simp only [Nat.zero_mul, add_zeroA] at f0 f1 f2 f3
            go_wp2_with fail
            clear f0 f1 f2 f3
            refine (treeBegins_any x.key p w7).mono ?_
            rintro e w8 ⟨rfl, hb⟩
            have Ag_28 := Lib.hid (Ag_23.out.below hb)
            have Cr_29 := Lib.hid (Kd.C_below Cr_24.out hb)
            have Hxb_30 := Lib.hid ((hb.block _ (blk_lt Hxb_25.out)).trans Hxb_25.out)
            have Rs_31 := Lib.hid (Kd.R_below Rs_26.out hb)
            have B_32 := Lib.hid (below_next0 B_27.out hb)
            clear hb
            have hsn := HSN.out
            cases hbg : p.data.toList.isPrefixOf x.key.data.toList
            · rw [hbg] at hsn
              simp only [Bool.false_eq_true, if_false, List.append_nil] at hsn
              have HSM := Lib.hid hsn
              clear hsn hbg HSN
              go_wp2
              go_roundw
              case rel => exact ⟨0 + 1, by omega, by go_num, Lib.hid B_32.out, by rw [HSM.out]; exact Lib.hid Rs_31.out⟩
              case measure => simp [intOf] <;> omega
            · rw [hbg] at hsn
              simp only [if_true] at hsn
              have HSM := Lib.hid hsn
              clear hsn hbg HSN
              obtain ⟨ab5, e0, f0, f1, f2, f3⟩ := at_Ent Cr_29.out hlk
              cases e0
              rw [HKX.out] at f0 f1 f2 f3
              simp only [Nat.zero_mul, add_zeroA] at f0 f1 f2 f3
              have hbd1 : (listL p (M.row.take 0)).length ≤ 1000000 := by (have h1 := listL_le p (M.row.take 0); rw [List.length_take] at h1; omega)
              go_wp2_with (at_builtin; refine Kd.R_append kEnt (w0 := w8) w4.heap.size rfl (.tmp 97) (.tmp 102) 52 62 (.agg #[.string ⟨#[]⟩, .string ⟨#[]⟩, .int .i64 0, .int .i64 0]) 48 rfl Try.underlying52 infoEnt rfl (by decide) (by omega) _ _ x [.string x.key, .string x.val, .int .i64 x.made, .int .i64 x.mod] (fun _ => True) (fun _ => False) rfl rfl (kEnt_mkM _ _ _ _) (fun _ hk => hk.elim) (fun _ _ => trivial) Rs_31.out (Below.refl _ _) B_32.out.size (by omega) ?_; intro v1 wz ho hb hg _)
              go_roundw
              case rel => exact ⟨0 + 1, by omega, by go_num, Lib.hid (B_32.out.trans hb), by rw [HSM.out]; exact Lib.hid ho⟩
              case measure => simp [intOf] <;> omega
        · obtain rfl : k = n := by omega
          rw [List.take_of_length_le (by rw [HNL.out]; exact Nat.le_refl _)] at HR
          obtain ⟨sA, sc, rfl, sl, hCs⟩ := Kd.R_reads HR.out
          have hbl : (listL p M.row).length ≤ 1000000 := by (have h1 := listL_le p M.row; rw [HNL.out] at h1; omega)
          clear hlt
          have C_12 := Lib.hid (hCs)
          clear hCs
          go_wp2_with fail
          have hcall := len_any g t_3 (M) ad_4 c_5 wr (Ag_9.out.below HB.out)
          rw [HNL.out] at hcall
          refine hcall.mono ?_
          clear hcall
          rintro e w5 ⟨rfl, hb⟩
          have Ag_13 := Lib.hid ((Ag_9.out.below HB.out).below hb)
          have Cr_14 := Lib.hid (Kd.C_below (Kd.C_below Cr_11.out HB.out) hb)
          have Cs_15 := Lib.hid (Kd.C_below C_12.out hb)
          have B_16 := Lib.hid (below_next0 HB.out hb)
          clear hb
          go_wp2_with fail
          refine (list_any g t_3 (M) ad_4 c_5 w5 Ag_13.out p (by rw [HNL.out]; omega)).mono ?_
          rintro e w6 ⟨V, rfl, hR, hb⟩
          obtain ⟨qA, qc, rfl, ql, hC⟩ := Kd.R_reads hR
          have Ag_17 := Lib.hid (Ag_13.out.below hb)
          have Cr_18 := Lib.hid (Kd.C_below Cr_14.out hb)
          have Cs_19 := Lib.hid (Kd.C_below Cs_15.out hb)
          have B_20 := Lib.hid (below_next0 B_16.out hb)
          have C_21 := Lib.hid (hC)
          clear hR hC hb
          go_wp2_with fail
          refine (entries_same (listL p M.row) _ _ _ _ w6 ql sl C_21.out Cs_19.out (by omega)).mono ?_
          rintro e w7 ⟨rfl, hb⟩
          have Ag_22 := Lib.hid (Ag_17.out.below hb)
          have B_23 := Lib.hid (below_next0 B_20.out hb)
          clear hb
          go_wp2
          go_ret
          exact ⟨by first | rfl | (simp; done), below_next0 B_10.out B_23.out⟩
  · go_enter Try.func5, Try.ntmps5
    go_wp2_with fail
    refine (HW.out _ _ _ hc (Kd.C_below HC.out (Below.refl w.heap.size w))).mono ?_
    rintro e w1 ⟨rfl, hb⟩
    have B_1 := Lib.hid (below_next0 (Below.refl w.heap.size w) hb)
    clear hb
    go_wp2_with fail
    refine (treeAwake_any w1).mono ?_
    rintro e w2 ⟨rfl, hb⟩
    have B_2 := Lib.hid (below_next0 B_1.out hb)
    clear hb
    go_wp2
    go_ret
    exact ⟨rfl, B_2.out⟩
end Go.Proofs.Ytobanhbjkomieaa.TA
