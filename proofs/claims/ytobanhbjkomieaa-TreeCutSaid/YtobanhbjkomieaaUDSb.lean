import Derived.Test.YtobanhbjkomieaaUCSb
namespace Go.Proofs.Ytobanhbjkomieaa.TA
open Go Go.RowKit Go.Proofs.Ytobanhbjkomieaa.KP Go.Proofs.YtobanhbjkomieaaW.PrintWords Go.Proofs.YtobanhbjkomieaaW.PrintLast Go.Proofs.YtobanhbjkomieaaW.PrintMore
open Go.Proofs.Ytobanhbjkomieaa.RP (wTake wSkip wOne wpAnyH_cast below_next0)
set_option linter.unusedSimpArgs false
set_option linter.unusedVariables false
theorem u64_bd (n : Int) : 0 ≤ IntKind.u64.wrap n := by
  unfold IntKind.wrap
  simp [IntKind.bits, IntKind.signed]
  try omega
theorem umod_bd (n r : Int) (hr : 0 ≤ r ∧ r ≤ 1000) : 0 ≤ wrap64 ((IntKind.u64.wrap n).tmod (r + 1)) ∧ wrap64 ((IntKind.u64.wrap n).tmod (r + 1)) ≤ r := by
  have h0 := u64_bd n
  have h1 := Int.tmod_lt_of_pos (IntKind.u64.wrap n) (show 0 < r + 1 by omega)
  have h2 := Int.tmod_nonneg (r + 1) h0
  unfold wrap64
  omega
theorem umod_bd1 (n r : Int) (hr : 0 ≤ r ∧ r ≤ 1000) : 1 ≤ wrap64 (1 + wrap64 ((IntKind.u64.wrap n).tmod (r + 1))) ∧ wrap64 (1 + wrap64 ((IntKind.u64.wrap n).tmod (r + 1))) ≤ r + 1 := by
  have h := umod_bd n r hr
  generalize wrap64 ((IntKind.u64.wrap n).tmod (r + 1)) = p at *
  unfold wrap64
  omega
theorem cut_low {m : Md} {n : Nat} (h : Gr m n) {p : Int} (hp : 0 ≤ p ∧ p ≤ m.rev) : cutM p m = (⟨m.row, m.rev, p, m.hap.filter fun x => decide (p < x.rev)⟩, 0) := by
  have hl := h.low
  unfold cutM
  rw [if_neg (by omega), hl, show max 0 p = p by omega]
theorem same_cut {m : Md} {n : Nat} (h : Gr m n) {p : Int} (hp : 0 ≤ p ∧ p ≤ m.rev) : sameM ⟨m.row, m.rev, p, m.hap.filter fun x => decide (p < x.rev)⟩ m = (p == 0) := by
  have hl := h.low
  by_cases h0 : p = 0
  · subst h0
    have := cut_none h.ok
    rw [hl] at this
    simp [sameM, hl, this]
  · have : ¬ p = m.low := by omega
    have e1 : (p == m.low) = false := beq_eq_false_iff_ne.2 this
    have e2 : (p == 0) = false := beq_eq_false_iff_ne.2 h0
    simp only [sameM, e1, e2, BEq.rfl, Bool.true_and, Bool.false_and]
theorem since_low {m : Md} {n : Nat} (h : Gr m n) {q : Int} (hq : 1 ≤ q ∧ q ≤ m.rev + 1) : sinceM true ⟨#[]⟩ q m = (sinceL ⟨#[]⟩ q m.hap, 0) := by
  have hl := h.low
  unfold sinceM
  rw [if_neg (by simp), if_neg (by omega), if_neg (by omega)]
theorem since_gone {m : Md} {n : Nat} (h : Gr m n) {p q : Int} (hp : 0 ≤ p ∧ p ≤ m.rev) (hq : 1 ≤ q ∧ q ≤ m.rev + 1) (hqp : q ≤ p) (F : List Evt) : sinceM true ⟨#[]⟩ q ⟨m.row, m.rev, p, F⟩ = ([], 52) := by
  unfold sinceM
  rw [if_neg (by simp), if_neg (by simp only; omega), if_pos hqp]
theorem since_kept {m : Md} {n : Nat} (h : Gr m n) {p q : Int} (hp : 0 ≤ p ∧ p ≤ m.rev) (hq : 1 ≤ q ∧ q ≤ m.rev + 1) (hqp : ¬ q ≤ p) (F : List Evt) : sinceM true ⟨#[]⟩ q ⟨m.row, m.rev, p, F⟩ = (sinceL ⟨#[]⟩ q F, 0) := by
  unfold sinceM
  rw [if_neg (by simp), if_neg (by simp only; omega), if_neg hqp]
set_option maxHeartbeats 16000000 in
set_option maxRecDepth 100000 in
theorem TreeCut_walk (A : Option Addr) (c : Nat) (l : List TxP) (rev from_ : Int) (w : World) (hc : l.length ≤ c) (hC : Kd.C PTr.k34 w A l.length l) (ok : (∀ x ∈ l, okX x) ∧ l.length ≤ maxLen) (hr : (Lit.int .i64 rev).wf = true) (hf : (Lit.int .i64 from_).wf = true) :
    Calls Try.prog 9 #[.slice A l.length c, .int .i64 rev, .int .i64 from_] w fun e w' => e = .returned (.bool true) ∧ Below w.heap.size w w' := by
  obtain ⟨b, hb5, hw⟩ := wide_any l ok.2 ok.1
  have HC := Lib.hid hC
  have HX := Lib.hid ok.1
  have HW := Lib.hid hw
  clear hC ok hw
  cases b
  · have h5 := hb5 rfl
    clear hb5
    obtain ⟨M, hM⟩ : ∃ M, run may (l.map toX) Md.new = M := ⟨_, rfl⟩
    have HM := Lib.hid hM
    have hg := gr_run (l.map toX)
    rw [hM, List.length_map] at hg
    have HGr := Lib.hid hg
    have hw : wrap64 (M.rev + 1) = M.rev + 1 := by have := hg.rev; unfold wrap64; omega
    have hbM : M.row.length ≤ 100000000 ∧ M.hap.length ≤ 100000000 := by have h1 := hg.row; have h2 := hg.hap; omega
    have hb2M : (M.row.length ≤ 1000000000 ∧ M.row.length ≤ 1000000000) ∧ (M.hap.length ≤ 1000000000 ∧ M.hap.length ≤ 1000000000) := by omega
    clear hM hg
    have hrv := HGr.out.rev
    go_enter Try.func9, Try.ntmps9
    go_wp2_with fail
    refine (HW.out _ _ _ hc (Kd.C_below HC.out (Below.refl w.heap.size w))).mono ?_
    rintro e w1 ⟨rfl, hb⟩
    have B_1 := Lib.hid (below_next0 (Below.refl w.heap.size w) hb)
    clear hb
    go_wp2_with fail
    refine (treeAwake_any w1).mono ?_
    rintro e w2 ⟨rfl, hb⟩
    have B_2 := Lib.hid (below_next0 B_1.out hb)
    clear hb
    go_wp2_with fail
    refine (grown_any A c l w2 hc (Kd.C_below HC.out B_2.out) HX.out h5).mono ?_
    rintro e w3 ⟨g, t_3, ad_4, c_5, rfl, hg, hA, hb⟩
    have Gg_6 := Lib.hid (Nat.le_trans B_2.out.size hg)
    have B_7 := Lib.hid (below_next0 B_2.out hb)
    rw [HM.out] at hA
    have Ag_8 := Lib.hid (hA)
    clear hg hA hb
    go_wp2_with fail
    refine (rev_any g t_3 (M) ad_4 c_5 w3 Ag_8.out).mono ?_
    rintro e w4 ⟨rfl, hb⟩
    have Ag_9 := Lib.hid (Ag_8.out.below hb)
    have B_10 := Lib.hid (below_next0 B_7.out hb)
    clear hb
    go_wp2_with fail
    refine (rev_any g t_3 (M) ad_4 c_5 w4 Ag_9.out).mono ?_
    rintro e w5 ⟨rfl, hb⟩
    have Ag_11 := Lib.hid (Ag_9.out.below hb)
    have B_12 := Lib.hid (below_next0 B_10.out hb)
    clear hb
    go_wp2_with fail
    have hp := umod_bd rev M.rev (by omega)
    have hq := umod_bd1 from_ M.rev (by omega)
    generalize wrap64 ((IntKind.u64.wrap rev).tmod (M.rev + 1)) = p at *
    generalize wrap64 (1 + wrap64 ((IntKind.u64.wrap from_).tmod (M.rev + 1))) = q at *
    have hcut := cut_low HGr.out hp
    have hsm := same_cut HGr.out hp
    have hs1 := since_low HGr.out hq
    obtain ⟨HF, hHF⟩ : ∃ HF, M.hap.filter (fun x => decide (p < x.rev)) = HF := ⟨_, rfl⟩
    have hfl : HF.length ≤ M.hap.length := by rw [← hHF]; exact List.length_filter_le _ _
    rw [hHF] at hcut hsm
    have hs2 : p < q → sinceL ⟨#[]⟩ q HF = sinceL ⟨#[]⟩ q M.hap := fun h => by rw [← hHF]; exact since_cut h
    have HCUT := Lib.hid hcut
    have HSM := Lib.hid hsm
    have HS1 := Lib.hid hs1
    have HS2 := Lib.hid hs2
    have hbF : M.row.length ≤ 1000000000 ∧ HF.length ≤ 1000000000 := by omega
    have hsl : (sinceL ⟨#[]⟩ q M.hap).length ≤ 1000000000 := by (have := sinceL_le ⟨#[]⟩ q M.hap; omega)
    clear hcut hsm hs1 hs2 hHF
    refine (copy_any g t_3 (M) ad_4 c_5 w5 Ag_11.out).mono ?_
    rintro e w6 ⟨c9, rfl, hg, hA, hb⟩
    have Gc9_13 := Lib.hid (Nat.le_trans B_12.out.size hg)
    have N_14 := Lib.hid (show c9 ≠ g from by have := blk_lt Ag_11.out.blk; omega)
    have Ag_15 := Lib.hid (Ag_11.out.below hb)
    have B_16 := Lib.hid (below_next0 B_12.out hb)
    have Ac9_17 := Lib.hid (hA)
    clear hg hA hb
    go_wp2_with fail
    have hcall := cut_any c9 t_3 (M) ad_4 c_5 w6 Ac9_17.out p (by omega)
    rw [HCUT.out] at hcall
    refine hcall.mono ?_
    clear hcall
    rintro e w7 ⟨adA, cA, rfl, hA, hK⟩
    have Ag_18 := Lib.hid (Ag_15.out.kb Ac9_17.out.blk N_14.out.symm hK)
    have B_19 := Lib.hid (Kb.below B_16.out hK Gc9_13.out B_16.out.size)
    have Ac9_20 := Lib.hid (hA)
    clear hA hK
    go_wp2_with fail
    refine (low_any c9 t_3 (⟨M.row, M.rev, p, HF⟩) adA cA w7 Ac9_20.out).mono ?_
    rintro e w8 ⟨rfl, hb⟩
    have Ag_21 := Lib.hid (Ag_18.out.below hb)
    have Ac9_22 := Lib.hid (Ac9_20.out.below hb)
    have B_23 := Lib.hid (below_next0 B_19.out hb)
    clear hb
    go_wp2_with fail
    refine (rev_any c9 t_3 (⟨M.row, M.rev, p, HF⟩) adA cA w8 Ac9_22.out).mono ?_
    rintro e w9 ⟨rfl, hb⟩
    have Ag_24 := Lib.hid (Ag_21.out.below hb)
    have Ac9_25 := Lib.hid (Ac9_22.out.below hb)
    have B_26 := Lib.hid (below_next0 B_23.out hb)
    clear hb
    go_wp2_with fail
    refine (rev_any g t_3 (M) ad_4 c_5 w9 Ag_24.out).mono ?_
    rintro e w10 ⟨rfl, hb⟩
    have Ag_27 := Lib.hid (Ag_24.out.below hb)
    have Ac9_28 := Lib.hid (Ac9_25.out.below hb)
    have B_29 := Lib.hid (below_next0 B_26.out hb)
    clear hb
    go_wp2_with fail
    refine (list_any c9 t_3 (⟨M.row, M.rev, p, HF⟩) adA cA w10 Ac9_28.out ⟨#[]⟩ hbF.1).mono ?_
    rintro e w11 ⟨V, rfl, hR, hb⟩
    rw [listL_nil] at hR
    try dsimp only at hR
    obtain ⟨r1A, r1c, rfl, r1l, hC⟩ := Kd.R_reads hR
    have Ag_30 := Lib.hid (Ag_27.out.below hb)
    have Ac9_31 := Lib.hid (Ac9_28.out.below hb)
    have B_32 := Lib.hid (below_next0 B_29.out hb)
    have Cr1_33 := Lib.hid (hC)
    clear hR hC hb
    go_wp2_with fail
    refine (list_any g t_3 (M) ad_4 c_5 w11 Ag_30.out ⟨#[]⟩ hbF.1).mono ?_
    rintro e w12 ⟨V, rfl, hR, hb⟩
    rw [listL_nil] at hR
    try dsimp only at hR
    obtain ⟨r2A, r2c, rfl, r2l, hC⟩ := Kd.R_reads hR
    have Ag_34 := Lib.hid (Ag_30.out.below hb)
    have Ac9_35 := Lib.hid (Ac9_31.out.below hb)
    have Cr1_36 := Lib.hid (Kd.C_below Cr1_33.out hb)
    have B_37 := Lib.hid (below_next0 B_32.out hb)
    have Cr2_38 := Lib.hid (hC)
    clear hR hC hb
    go_wp2_with fail
    refine (entries_same M.row _ _ _ _ w12 r1l r2l Cr1_36.out Cr2_38.out hbF.1).mono ?_
    rintro e w13 ⟨rfl, hb⟩
    have Ag_39 := Lib.hid (Ag_34.out.below hb)
    have Ac9_40 := Lib.hid (Ac9_35.out.below hb)
    have B_41 := Lib.hid (below_next0 B_37.out hb)
    clear hb
    go_wp2_with fail
    have hcall := same_any c9 t_3 (⟨M.row, M.rev, p, HF⟩) adA cA g t_3 (M) ad_4 c_5 w13 Ac9_40.out Ag_39.out ⟨hbF.1, hbF.1⟩ ⟨hbF.2, by omega⟩
    rw [HSM.out] at hcall
    refine hcall.mono ?_
    clear hcall
    rintro e w14 ⟨rfl, hb⟩
    have Ag_42 := Lib.hid (Ag_39.out.below hb)
    have Ac9_43 := Lib.hid (Ac9_40.out.below hb)
    have B_44 := Lib.hid (below_next0 B_41.out hb)
    clear hb
    go_wp2_with fail
    have hcall := since_any g t_3 (M) ad_4 c_5 w14 Ag_42.out ⟨#[]⟩ (by simp [ByteArray.size]) (q) (by omega)
    rw [show isPrefix (⟨#[]⟩ : ByteArray).data.toList = true from rfl, HS1.out] at hcall
    refine hcall.mono ?_
    clear hcall
    rintro e w15 ⟨V, rfl, hR, hb⟩
    obtain ⟨k1A, k1c, rfl, k1l, hC⟩ := Kd.R_reads hR
    have Ag_45 := Lib.hid (Ag_42.out.below hb)
    have Ac9_46 := Lib.hid (Ac9_43.out.below hb)
    have B_47 := Lib.hid (below_next0 B_44.out hb)
    have Ck1_48 := Lib.hid (hC)
    clear hR hC hb
    by_cases hqp : q ≤ p
    · have HS := Lib.hid (since_gone HGr.out hp hq hqp HF)
      go_wp2_with fail
      have hcall := since_any c9 t_3 (⟨M.row, M.rev, p, HF⟩) adA cA w15 Ac9_46.out ⟨#[]⟩ (by simp [ByteArray.size]) (q) hbF.2
      rw [show isPrefix (⟨#[]⟩ : ByteArray).data.toList = true from rfl, HS.out] at hcall
      refine hcall.mono ?_
      clear hcall
      rintro e w16 ⟨V, rfl, hR, hb⟩
      obtain ⟨k2A, k2c, rfl, k2l, hC⟩ := Kd.R_reads hR
      have Ag_49 := Lib.hid (Ag_45.out.below hb)
      have Ac9_50 := Lib.hid (Ac9_46.out.below hb)
      have Ck1_51 := Lib.hid (Kd.C_below Ck1_48.out hb)
      have B_52 := Lib.hid (below_next0 B_47.out hb)
      have Ck2_53 := Lib.hid (hC)
      clear hR hC hb
      go_wp2
      go_ret
      exact ⟨by first | rfl | (simp; done), B_52.out⟩
    · have HS := Lib.hid (since_kept HGr.out hp hq hqp HF)
      go_wp2_with fail
      have hcall := since_any c9 t_3 (⟨M.row, M.rev, p, HF⟩) adA cA w15 Ac9_46.out ⟨#[]⟩ (by simp [ByteArray.size]) (q) hbF.2
      rw [show isPrefix (⟨#[]⟩ : ByteArray).data.toList = true from rfl, HS.out, HS2.out (by omega)] at hcall
      refine hcall.mono ?_
      clear hcall
      rintro e w16 ⟨V, rfl, hR, hb⟩
      obtain ⟨k2A, k2c, rfl, k2l, hC⟩ := Kd.R_reads hR
      have Ag_49 := Lib.hid (Ag_45.out.below hb)
      have Ac9_50 := Lib.hid (Ac9_46.out.below hb)
      have Ck1_51 := Lib.hid (Kd.C_below Ck1_48.out hb)
      have B_52 := Lib.hid (below_next0 B_47.out hb)
      have Ck2_53 := Lib.hid (hC)
      clear hR hC hb
      go_wp2_with fail
      refine (events_same _ _ _ _ _ w16 k1l k2l Ck1_51.out Ck2_53.out hsl).mono ?_
      rintro e w17 ⟨rfl, hb⟩
      have Ag_54 := Lib.hid (Ag_49.out.below hb)
      have Ac9_55 := Lib.hid (Ac9_50.out.below hb)
      have B_56 := Lib.hid (below_next0 B_52.out hb)
      clear hb
      go_wp2
      go_ret
      exact ⟨by first | rfl | (simp; done), B_56.out⟩
  · go_enter Try.func9, Try.ntmps9
    go_wp2_with fail
    refine (HW.out _ _ _ hc (Kd.C_below HC.out (Below.refl w.heap.size w))).mono ?_
    rintro e w1 ⟨rfl, hb⟩
    have B_1 := Lib.hid (below_next0 (Below.refl w.heap.size w) hb)
    clear hb
    go_wp2_with fail
    refine (treeAwake_any w1).mono ?_
    rintro e w2 ⟨rfl, hb⟩
    have B_2 := Lib.hid (below_next0 B_1.out hb)
    clear hb
    go_wp2
    go_ret
    exact ⟨rfl, B_2.out⟩
end Go.Proofs.Ytobanhbjkomieaa.TA
