import Derived.Test.YtobanhbjkomieaaVISb
namespace Go.Proofs.Ytobanhbjkomieaa.TA
open Go Go.RowKit Go.Proofs.Ytobanhbjkomieaa.KP Go.Proofs.YtobanhbjkomieaaW.PrintWords Go.Proofs.YtobanhbjkomieaaW.PrintLast Go.Proofs.YtobanhbjkomieaaW.PrintMore
open Go.Proofs.Ytobanhbjkomieaa.RP (wTake wSkip wOne wpAnyH_cast below_next0)
set_option linter.unusedSimpArgs false
set_option linter.unusedVariables false
theorem cut_le (n : Int) (m : Md) : (cutM n m).1.row = m.row ∧ (cutM n m).1.hap.length ≤ m.hap.length := by
  unfold cutM
  split
  · exact ⟨rfl, Nat.le_refl _⟩
  · exact ⟨rfl, List.length_filter_le _ _⟩
set_option maxHeartbeats 16000000 in
set_option maxRecDepth 100000 in
theorem TreePlays_walk (A : Option Addr) (c : Nat) (l : List AcP) (w : World) (hc : l.length ≤ c) (hC : Kd.C PTr.k96 w A l.length l) (ok : (∀ x ∈ l, OP.okAct x) ∧ l.length ≤ maxLen) :
    Calls Try.prog 10 #[.slice A l.length c] w fun e w' => e = .returned (.bool true) ∧ Below w.heap.size w w' := by
  obtain ⟨bb, hb3, hw⟩ := long_any l ok.2 ok.1
  have HC := Lib.hid hC
  have HX := Lib.hid ok.1
  have HW := Lib.hid hw
  clear hC ok hw
  cases bb
  · have h3 := hb3 rfl
    clear hb3
    go_enter Try.func10, Try.ntmps10
    go_wp2_with fail
    refine (HW.out _ _ _ hc (Kd.C_below HC.out (Below.refl w.heap.size w))).mono ?_
    rintro e w1 ⟨rfl, hb⟩
    have B_1 := Lib.hid (below_next0 (Below.refl w.heap.size w) hb)
    clear hb
    go_wp2_with fail
    refine (new_any w1).mono ?_
    rintro e w2 ⟨t, rfl, hg, hA, hb⟩
    have Gt_2 := Lib.hid (Nat.le_trans B_1.out.size hg)
    have B_3 := Lib.hid (below_next0 B_1.out hb)
    have At_4 := Lib.hid (hA)
    clear hg hA hb
    go_wp2_with fail
    obtain ⟨rb, hrb⟩ : ∃ X, X = w2.heap.size := ⟨_, rfl⟩
    try rw [← hrb]
    have Lrb := Lib.hid (show w.heap.size ≤ rb from hrb ▸ B_3.out.size)
    have hb : Below w2.heap.size w2 (w2.alloc (.cells #[.slice none 0 0, .int .i64 0, .int .i64 0, .slice none 0 0] 94)) := below_alloc (Below.refl _ _) _
    have hN : (w2.alloc (.cells #[.slice none 0 0, .int .i64 0, .int .i64 0, .slice none 0 0] 94)).heap[rb]? = some (.cells #[.slice none 0 0, .int .i64 0, .int .i64 0, .slice none 0 0] 94 (0, 0)) := hrb ▸ heap_alloc_new w2 (.cells #[.slice none 0 0, .int .i64 0, .int .i64 0, .slice none 0 0] 94)
    clear hrb
    generalize w2.alloc (.cells #[.slice none 0 0, .int .i64 0, .int .i64 0, .slice none 0 0] 94) = w3 at *
    have At_5 := Lib.hid (At_4.out.below hb)
    have B_6 := Lib.hid (below_next0 B_3.out hb)
    clear hb
    have Hrb_7 := Lib.hid (hN)
    clear hN
    have HRT := Lib.hid (show Rt w3 rb Md.new none 0 none 0 from ⟨Hrb_7.out, Kd.C_nil _ _, Kd.C_nil _ _, ⟨Nat.le_refl _, Nat.le_refl _⟩⟩)
    go_loopw [3, 5] (fun tp i wr => ∃ (k tb : Nat) (t : AT) (m : Md) (ad : Option Addr) (cc : Nat) (AR : Option Addr) (ca : Nat) (BR : Option Addr) (cb : Nat), k ≤ l.length ∧ i = .int .i64 k ∧ tp = .pointer (some ⟨tb, 0, none⟩) ∧ Hid (At wr tb t m ad cc) ∧ Hid (Rt wr rb m AR ca BR cb) ∧ Hid (Below w.heap.size w wr) ∧ w.heap.size ≤ tb ∧ Hid (m.row.length ≤ 8 * k ∧ m.hap.length ≤ 8 * k) ∧ Hid (∀ x ∈ m.row, x.key.size ≤ 9223372036854775807)) (fun _ i _ => l.length - (intOf i).toNat)
    case atStart => exact ⟨0, t, AT.nil, Md.new, none, 0, none, 0, none, 0, by omega, rfl, rfl, Lib.hid At_5.out, HRT, Lib.hid B_6.out, Gt_2.out, Lib.hid ⟨Nat.le_refl _, Nat.le_refl _⟩, Lib.hid (fun x hx => by cases hx)⟩
    case round =>
      obtain ⟨k, tb, t, m, ad, cc, AR, ca, BR, cb, hk, rfl, rfl, HA, HT, HB, htb, HSZ, HKS⟩ := hrel
      by_cases hlt : k < l.length
      · have i0 : (0 : Int) ≤ (k : Int) := by omega
        have i1 : (k : Int) < (l.length : Int) := by omega
        have hoka := HX.out _ (List.getElem_mem hlt)
        have hot := okT_of hoka.2.1
        have hkey := hoka.2.2.1
        have hl1 := hoka.2.1.1.2
        have hl2 := hoka.2.1.2.2
        have hl0 : l[k].f1.f0.length ≤ maxLen := hl1
        have hml : (toX l[k].f1).cs.length = l[k].f1.f0.length ∧ (toX l[k].f1).os.length = l[k].f1.f1.length := ⟨List.length_map _, List.length_map _⟩
        obtain ⟨ab, A0, c0, A1, c1, e0, f0, f1, f2, f3, f4, l0, g0, l1, g1⟩ := at_Act HC.out hlt
        cases e0
        clear hoka hl2
        have hot : (∀ q ∈ (toX l[k].f1).cs, q.key.size ≤ 9223372036854775807) ∧ ∀ q ∈ (toX l[k].f1).os, q.key.size ≤ 9223372036854775807 := hot
        generalize l[k].f0 = kd at *
        generalize l[k].f2 = key at *
        generalize l[k].f3 = N at *
        generalize (toX l[k].f1).cs = CS at *
        generalize (toX l[k].f1).os = OS at *
        have F0 := Lib.hid f0
        have F1 := Lib.hid f1
        have F2 := Lib.hid f2
        have F3 := Lib.hid f3
        have F4 := Lib.hid f4
        have G0 := Lib.hid g0
        have G1 := Lib.hid g1
        have HOT := Lib.hid hot
        have HKEY := Lib.hid hkey
        have HOK := Lib.hid HA.out.ok
        have lab : (ab.add (k * 5)).block < w.heap.size := World.block_lt_of_cell? _ _ f0
        clear f0 f1 f2 f3 f4 g0 g1 hot hkey
        have hl1 : CS.length ≤ maxLen := by omega
        clear hml
        have HLN := Lib.hid (show CS.length ≤ 9223372036854775807 from by (unfold maxLen at hl1; omega))
        have HD3 := Lib.hid (show (doM (mayTx CS OS) CS OS m).2.1.length ≤ (doM (mayTx CS OS) CS OS m).1.hap.length from by rw [do_hap, List.length_append]; omega)
        by_cases k0 : kd = 0
        · subst k0
          have f0 := (HB.out.cell (p := ab.add (k * 5)) lab).trans F0.out
          have f1 := (HB.out.cell (p := ⟨(ab.add (k * 5)).block, (ab.add (k * 5)).off + 1, none⟩) lab).trans F1.out
          have f2 := (HB.out.cell (p := ⟨(ab.add (k * 5)).block, (ab.add (k * 5)).off + 2, none⟩) lab).trans F2.out
          have f3 := (HB.out.cell (p := ⟨(ab.add (k * 5)).block, (ab.add (k * 5)).off + 3, none⟩) lab).trans F3.out
          have f4 := (HB.out.cell (p := ⟨(ab.add (k * 5)).block, (ab.add (k * 5)).off + 4, none⟩) lab).trans F4.out
          go_wp2_with fail
          clear f0 f1 f2 f3 f4
          have hle := do_le (may := mayTx CS OS) (cs := CS) (os := OS) (m := m) (fun h => (mayTx_len h).2)
          have hky := do_keys (P := fun q => q.size ≤ 9223372036854775807) (may := mayTx CS OS) (cs := CS) (os := OS) (m := m) HOT.out.2 HKS.out
          have hcall := do_anyA tb t m ad cc wr HA.out A0 c0 CS A1 c1 OS l0 (Kd.C_below G0.out HB.out) l1 (Kd.C_below G1.out HB.out) HOT.out (by have := HSZ.out; omega) (by have := HSZ.out; omega)
          have hcall2 := fun W h hA hB => doR_any rb m AR ca BR cb W h (by have := HSZ.out; omega) HOK.out (by have := HSZ.out; omega) (by have := HSZ.out; omega) A0 c0 CS A1 c1 OS l0 hA l1 hB
          obtain ⟨D, hD⟩ : ∃ D, doM (mayTx CS OS) CS OS m = D := ⟨_, rfl⟩
          rw [hD] at hcall hcall2 hle hky HD3
          have HC2 := Lib.hid hcall2
          have HLE := Lib.hid hle
          have HKY := Lib.hid hky
          clear hcall2 hle hky hD
          refine hcall.mono ?_
          clear hcall
          rintro e w4 ⟨V9, t9, ad9, c9, rfl, hR9, hA9, hK9, hap9, fr9⟩
          have hlt9 : wr.heap.size ≤ w4.heap.size := hK9.size
          have HR9 := Lib.hid hR9
          have HAP := Lib.hid hap9
          have FR9 := Lib.hid fr9
          have HRW := Lib.hid (show ∀ a, AR = some a → 0 < m.row.length → a.block < wr.heap.size from ent_lt HT.out.row)
          have HHW := Lib.hid (show ∀ a, BR = some a → 0 < m.hap.length → a.block < wr.heap.size from hap_lt HT.out.hap)
          have LB0 := Lib.hid (show rb < wr.heap.size from blk_lt HT.out.blk)
          have LT0 := Lib.hid (show tb < wr.heap.size from blk_lt HA.out.blk)
          have T_8 := Lib.hid (HT.out.kb HA.out.blk hK9)
          have B_9 := Lib.hid (Kb.below HB.out hK9 htb HB.out.size)
          have A_10 := Lib.hid (hA9)
          clear hR9 hA9 hK9 hap9 fr9
          have HV1 := Lib.hid (show ∀ q, V9.ownBlock = some q → q < w4.heap.size from fun q e => by (obtain ⟨_, h⟩ := Kd.R_typed HR9.out q e; exact blk_lt h))
          have f0 := (B_9.out.cell (p := ab.add (k * 5)) lab).trans F0.out
          have f1 := (B_9.out.cell (p := ⟨(ab.add (k * 5)).block, (ab.add (k * 5)).off + 1, none⟩) lab).trans F1.out
          have f2 := (B_9.out.cell (p := ⟨(ab.add (k * 5)).block, (ab.add (k * 5)).off + 2, none⟩) lab).trans F2.out
          have f3 := (B_9.out.cell (p := ⟨(ab.add (k * 5)).block, (ab.add (k * 5)).off + 3, none⟩) lab).trans F3.out
          have f4 := (B_9.out.cell (p := ⟨(ab.add (k * 5)).block, (ab.add (k * 5)).off + 4, none⟩) lab).trans F4.out
          go_wp2_with fail
          clear f0 f1 f2 f3 f4
          refine (HC2.out w4 T_8.out (Kd.C_below G0.out B_9.out) (Kd.C_below G1.out B_9.out)).mono ?_
          rintro e w5 ⟨V10, A5, ca5, B5, cb5, rfl, hR10, hT5, hK10, frB, frA⟩
          have FRB := Lib.hid frB
          have FRA := Lib.hid frA
          have HR10 := Lib.hid hR10
          clear HC2
          have A_11 := Lib.hid (rt_at T_8.out hK10 A_10.out)
          have B_12 := Lib.hid (Kb.below B_9.out hK10 Lrb.out B_9.out.size)
          have Rv_13 := Lib.hid (R_kb HR9.out hK10 LB0.out)
          have T_14 := Lib.hid (hT5)
          clear hR10 hT5 hK10 frB frA
          obtain ⟨v9A, v9c, rfl, v9l, hC9⟩ := Kd.R_reads Rv_13.out
          obtain ⟨v10A, v10c, rfl, v10l, hC10⟩ := Kd.R_reads HR10.out
          have HC9 := Lib.hid hC9
          have HC10 := Lib.hid hC10
          clear hC9 hC10
          go_wp2_with fail
          have HDL := Lib.hid (show D.2.1.length ≤ 1000000 from by have h1 := HD3.out; have h2 := HLE.out; have h3 := HSZ.out; omega)
          have hbd0 := Lib.hid ((Below.refl w5.heap.size w5).drew)
          refine wp_region_noPanic ?_
          refine wp_region_held_drew (S := fun W => W.cell? ⟨(ab.add (k * 5)).block, (ab.add (k * 5)).off + 1, none⟩ = some (.slice A0 CS.length c0) ∧ W.cell? ⟨(ab.add (k * 5)).block, (ab.add (k * 5)).off + 2, none⟩ = some (.slice A1 OS.length c1)) (by kernel_rfl) (⟨((below_next0 B_12.out hbd0.out).cell (p := ⟨(ab.add (k * 5)).block, (ab.add (k * 5)).off + 1, none⟩) lab).trans F1.out, ((below_next0 B_12.out hbd0.out).cell (p := ⟨(ab.add (k * 5)).block, (ab.add (k * 5)).off + 2, none⟩) lab).trans F2.out⟩) (fun hHeld => ?_)
          refine wTake 0 ?_
          refine wTake 1 ?_
          try simp only [Act.put, List.setIfInBounds_toArray, List.set_cons_zero, List.set_cons_succ]
          refine wpAnyH_ready (rs := [2]) (by kernel_rfl) (by simp) (AllReadyH.cons rfl (fun K hK => ?_) AllReadyH.nil)
          go_simp
          refine (events_same D.2.1 v9A v10A v9c v10c w5.drew v9l v10l (Kd.C_below HC9.out hbd0.out) (Kd.C_below HC10.out hbd0.out) (by have := HDL.out; omega)).mono ?_
          rintro e w6 ⟨rfl, hb⟩
          have hbd1 := Lib.hid (below_next0 hbd0.out hb)
          clear hb
          go_wp2_with fail
          refine hK.out _ _ ⟨((below_next0 B_12.out hbd1.out).cell (p := ⟨(ab.add (k * 5)).block, (ab.add (k * 5)).off + 1, none⟩) lab).trans F1.out, ((below_next0 B_12.out hbd1.out).cell (p := ⟨(ab.add (k * 5)).block, (ab.add (k * 5)).off + 2, none⟩) lab).trans F2.out⟩ (fun hHeld => ?_)
          clear hK K
          try simp only [Act.put, List.setIfInBounds_toArray, List.set_cons_zero, List.set_cons_succ]
          refine wTake 3 ?_
          refine wTake 4 ?_
          try simp only [Act.put, List.setIfInBounds_toArray, List.set_cons_zero, List.set_cons_succ]
          refine wTake 5 ?_
          try simp only [Act.put, List.setIfInBounds_toArray, List.set_cons_zero, List.set_cons_succ]
          refine wTake 6 ?_
          try simp only [Act.put, List.setIfInBounds_toArray, List.set_cons_zero, List.set_cons_succ]
          refine wTake 7 ?_
          refine wTake 8 ?_
          refine wTake 9 ?_
          try simp only [Act.put, List.setIfInBounds_toArray, List.set_cons_zero, List.set_cons_succ]
          refine wTake 10 ?_
          try simp only [Act.put, List.setIfInBounds_toArray, List.set_cons_zero, List.set_cons_succ]
          refine wTake 11 ?_
          try simp only [Act.put, List.setIfInBounds_toArray, List.set_cons_zero, List.set_cons_succ]
          refine wTake 12 ?_
          refine wTake 13 ?_
          refine wTake 14 ?_
          try simp only [Act.put, List.setIfInBounds_toArray, List.set_cons_zero, List.set_cons_succ]
          refine wTake 15 ?_
          try simp only [Act.put, List.setIfInBounds_toArray, List.set_cons_zero, List.set_cons_succ]
          refine wTake 16 ?_
          try simp only [Act.put, List.setIfInBounds_toArray, List.set_cons_zero, List.set_cons_succ]
          refine wTake 17 ?_
          try simp only [Act.put, List.setIfInBounds_toArray, List.set_cons_zero, List.set_cons_succ]
          refine wTake 18 ?_
          try simp only [Act.put, List.setIfInBounds_toArray, List.set_cons_zero, List.set_cons_succ]
          refine wTake 19 ?_
          try simp only [Act.put, List.setIfInBounds_toArray, List.set_cons_zero, List.set_cons_succ]
          refine wTake 21 ?_
          try simp only [Act.put, List.setIfInBounds_toArray, List.set_cons_zero, List.set_cons_succ]
          refine wTake 22 ?_
          try simp only [Act.put, List.setIfInBounds_toArray, List.set_cons_zero, List.set_cons_succ]
          refine wTake 23 ?_
          try simp only [Act.put, List.setIfInBounds_toArray, List.set_cons_zero, List.set_cons_succ]
          refine wTake 24 ?_
          try simp only [Act.put, List.setIfInBounds_toArray, List.set_cons_zero, List.set_cons_succ]
          refine wTake 25 ?_
          try simp only [Act.put, List.setIfInBounds_toArray, List.set_cons_zero, List.set_cons_succ]
          refine wpAnyH_ready (rs := [20]) (by kernel_rfl) (by simp) (AllReadyH.cons rfl (fun K hK => ?_) AllReadyH.nil)
          go_simp
          refine (mayTxn_all A0 c0 CS A1 c1 OS w6 l0 (Kd.C_below (Kd.C_below G0.out B_12.out) hbd1.out) l1 (Kd.C_below (Kd.C_below G1.out B_12.out) hbd1.out) HOT.out).mono ?_
          rintro e w7 ⟨rfl, hb⟩
          have hbd2 := Lib.hid (below_next0 hbd1.out hb)
          clear hb
          go_wp2_with fail
          refine hK.out _ _ ⟨((below_next0 B_12.out hbd2.out).cell (p := ⟨(ab.add (k * 5)).block, (ab.add (k * 5)).off + 1, none⟩) lab).trans F1.out, ((below_next0 B_12.out hbd2.out).cell (p := ⟨(ab.add (k * 5)).block, (ab.add (k * 5)).off + 2, none⟩) lab).trans F2.out⟩ (fun hHeld => ?_)
          clear hK K
          try simp only [Act.put, List.setIfInBounds_toArray, List.set_cons_zero, List.set_cons_succ]
          refine wpAnyH_ready (rs := [26]) (by kernel_rfl) (by simp) (AllReadyH.cons rfl (fun K hK => ?_) AllReadyH.nil)
          go_simp
          refine (mayRef_any A0 c0 CS A1 c1 OS w7 l0 (Kd.C_below (Kd.C_below G0.out B_12.out) hbd2.out) l1 (Kd.C_below (Kd.C_below G1.out B_12.out) hbd2.out)).mono ?_
          rintro e w8 ⟨rfl, hb⟩
          have hbd3 := Lib.hid (below_next0 hbd2.out hb)
          clear hb
          go_wp2_with fail
          refine hK.out _ _ ⟨((below_next0 B_12.out hbd3.out).cell (p := ⟨(ab.add (k * 5)).block, (ab.add (k * 5)).off + 1, none⟩) lab).trans F1.out, ((below_next0 B_12.out hbd3.out).cell (p := ⟨(ab.add (k * 5)).block, (ab.add (k * 5)).off + 2, none⟩) lab).trans F2.out⟩ (fun hHeld => ?_)
          clear hK K
          try simp only [Act.put, List.setIfInBounds_toArray, List.set_cons_zero, List.set_cons_succ]
          refine wTake 27 ?_
          refine wTake 28 ?_
          try simp only [Act.put, List.setIfInBounds_toArray, List.set_cons_zero, List.set_cons_succ]
          refine wpAnyH_done (by kernel_rfl) ?_ _
          refine NoPanic.normal ?_
          clear hHeld
          have hb := hbd3.out
          have T_15 := Lib.hid (T_14.out.below hb)
          have At_16 := Lib.hid (A_11.out.below hb)
          have Rv_17 := Lib.hid (Kd.R_below Rv_13.out hb)
          have B_18 := Lib.hid (below_next0 B_12.out hb)
          clear hb
          rcases Nat.eq_zero_or_pos D.2.1.length with hz | hz
          · rw [hz]
            go_wp2_with fail
            go_loopw [12] (fun i wr => i = .int .i64 0 ∧ Hid (Below w8.heap.size w8 wr)) (fun i _ => 0 - (intOf i).toNat)
            case atStart => exact ⟨rfl, Lib.hid (Below.refl _ _)⟩
            case round =>
              obtain ⟨rfl, HBz⟩ := hrel
              have hb := HBz.out
              have T_19 := Lib.hid (T_15.out.below hb)
              have At_20 := Lib.hid (At_16.out.below hb)
              have B_21 := Lib.hid (below_next0 B_18.out hb)
              clear hb
              go_wp2_with fail
              have hsz := (show D.1.row.length ≤ 8 * k + 8 ∧ D.1.hap.length ≤ 8 * k + 8 from by have h1 := HLE.out; have h2 := HSZ.out; omega)
              refine (alike_any tb t9 (D.1) ad9 c9 rb A5 ca5 B5 cb5 wr At_20.out T_19.out (by omega) (by omega)).mono ?_
              have HSZ2 := Lib.hid hsz
              clear hsz
              rintro e w9 ⟨rfl, hb⟩
              have T_22 := Lib.hid (T_19.out.below hb)
              have At_23 := Lib.hid (At_20.out.below hb)
              have B_24 := Lib.hid (below_next0 B_21.out hb)
              clear hb
              go_wp2
              go_roundw
              case rel => exact ⟨k + 1, tb, t9, D.1, ad9, c9, A5, ca5, B5, cb5, by omega, by go_num, rfl, Lib.hid At_23.out, Lib.hid T_22.out, Lib.hid B_24.out, htb, Lib.hid (by have := HSZ2.out; omega), Lib.hid (HKY.out)⟩
              case measure => simp [intOf]; omega
          · obtain ⟨gq, cap, hv, hgb, hgl, cells, hcells⟩ := Kd.R_form Rv_17.out hz
            injection hv with hv1 _ hv2
            obtain ⟨va, had⟩ : ∃ va : Addr, va = ⟨gq, 0, none⟩ := ⟨_, rfl⟩
            rw [← had] at hv1
            subst hv1
            subst hv2
            have HC9w := Lib.hid (Kd.C_below HC9.out hbd3.out)
            have HG := Lib.hid hcells
            have HAD := Lib.hid had
            have hown : ∀ cc n, (Value.slice (some va) n cc).ownBlock = some gq := fun cc n => by (rw [had]; rfl)
            have hg1 : gq < w4.heap.size := HV1.out gq (hown _ _)
            have HFA := Lib.hid (show ∀ a, ad9 = some a → 0 < D.1.hap.length → a.block ≠ gq from fun a ha hn => HAP.out a ha hn gq (hown _ _))
            have HFR := Lib.hid (show ∀ a, A5 = some a → 0 < D.1.row.length → a.block ≠ gq from fun a ha hn e => by (rcases FRA.out a ha hn with ⟨h, h5⟩ | h; have h6 := HRW.out a (h.symm.trans ha) h5; omega; omega))
            have HFH := Lib.hid (show ∀ a, B5 = some a → 0 < D.1.hap.length → a.block ≠ gq from fun a ha hn e => by (rcases FRB.out a ha hn with ⟨h, h5⟩ | h; have h6 := HHW.out a (h.symm.trans ha) h5; omega; omega))
            clear hcells had hown
            obtain ⟨ne, hne⟩ : ∃ ne, D.2.1.length = ne := ⟨_, rfl⟩
            have HNE := Lib.hid hne
            rw [hne] at hz ⊢
            have HNL := Lib.hid (show ne ≤ 1000000 from by have := HDL.out; omega)
            clear hne
            go_wp2_with fail
            go_loopw [12] (fun i wr => ∃ (j : Nat) (L : List Evt) (cells : Array Value), j ≤ ne ∧ i = .int .i64 j ∧ Hid (At wr tb t9 D.1 ad9 c9) ∧ Hid (Rt wr rb D.1 A5 ca5 B5 cb5) ∧ Hid (Below w.heap.size w wr) ∧ Hid (Kd.C kEvt wr (some va) L.length L) ∧ L.length = ne ∧ Hid (wr.heap[gq]? = some (.cells cells 60 (0, 0)))) (fun i _ => ne - (intOf i).toNat)
            case atStart => exact ⟨0, D.2.1, cells, by omega, rfl, Lib.hid At_16.out, Lib.hid T_15.out, Lib.hid B_18.out, HC9w, HNE.out, HG⟩
            case round =>
              obtain ⟨j, L, cells, hj, rfl, HAj, HTj, HBj, HCj, hL, HGj⟩ := hrel
              by_cases hjl : j < ne
              · have hnl := HNL.out
                have i0 : (0 : Int) ≤ (j : Int) := by omega
                have i1 : (j : Int) < (ne : Int) := by omega
                have hlL : j < L.length := by omega
                obtain ⟨va3, e0, f0, f1, f2, f3⟩ := at_Evt HCj.out hlL
                cases e0
                clear f0 f1 f3
                have hPA : (⟨(va.add (j * 4)).block, (va.add (j * 4)).off + 2, none⟩ : Addr) = ⟨gq, (va.add (j * 4)).off + 2, none⟩ := by (rw [show (va.add (j * 4)).block = gq from by rw [HAD.out, add_plain]])
                have hfz : wr.frozen? ⟨(va.add (j * 4)).block, (va.add (j * 4)).off + 2, none⟩ = false := by (rw [hPA]; exact blk_frozen HGj.out _)
                have A4 := Lib.hid (show At (wr.setCell ⟨(va.add (j * 4)).block, (va.add (j * 4)).off + 2, none⟩ (.string bSp)) tb t9 D.1 ad9 c9 from by rw [hPA]; exact HAj.out.setRow HGj.out (by decide) HFA.out _ _)
                have T4 := Lib.hid (show Rt (wr.setCell ⟨(va.add (j * 4)).block, (va.add (j * 4)).off + 2, none⟩ (.string bSp)) rb D.1 A5 ca5 B5 cb5 from by rw [hPA]; exact HTj.out.setRow HGj.out (by decide) HFR.out HFH.out _ _)
                have B4 := Lib.hid (show Below w.heap.size w (wr.setCell ⟨(va.add (j * 4)).block, (va.add (j * 4)).off + 2, none⟩ (.string bSp)) from HBj.out.setCell (p := ⟨(va.add (j * 4)).block, (va.add (j * 4)).off + 2, none⟩) (by rw [hPA]; exact Nat.le_trans HB.out.size hgb) _)
                have C4 := Lib.hid (C_putV HAD.out HCj.out hlL bSp)
                have G4 : ∃ cells, (wr.setCell ⟨(va.add (j * 4)).block, (va.add (j * 4)).off + 2, none⟩ (.string bSp)).heap[gq]? = some (.cells cells 60 (0, 0)) := by (rw [hPA]; exact ⟨_, blk_put HGj.out _ _ rfl⟩)
                obtain ⟨cells4, hG4⟩ := G4
                have G4 := Lib.hid hG4
                clear hG4 hPA
                have hlS : (L.set j ⟨L[j].rev, L[j].del, bSp, L[j].val⟩).length = ne := List.length_set.trans hL
                go_wp2
                go_roundw
                case rel => exact ⟨j + 1, _, cells4, by omega, by go_num, A4, T4, B4, C4, hlS, G4⟩
                case measure => simp [intOf]; omega
              · go_wp2_with fail
                have hsz := (show D.1.row.length ≤ 8 * k + 8 ∧ D.1.hap.length ≤ 8 * k + 8 from by have h1 := HLE.out; have h2 := HSZ.out; omega)
                refine (alike_any tb t9 (D.1) ad9 c9 rb A5 ca5 B5 cb5 wr HAj.out HTj.out (by omega) (by omega)).mono ?_
                have HSZ2 := Lib.hid hsz
                clear hsz
                rintro e w9 ⟨rfl, hb⟩
                have T_19 := Lib.hid (HTj.out.below hb)
                have At_20 := Lib.hid (HAj.out.below hb)
                have B_21 := Lib.hid (below_next0 HBj.out hb)
                clear hb
                go_wp2
                go_roundw
                case rel => exact ⟨k + 1, tb, t9, D.1, ad9, c9, A5, ca5, B5, cb5, by omega, by go_num, rfl, Lib.hid At_20.out, Lib.hid T_19.out, Lib.hid B_21.out, htb, Lib.hid (by have := HSZ2.out; omega), Lib.hid (HKY.out)⟩
                case measure => simp [intOf]; omega
        · have e0 : (kd == 0) = false := beq_eq_false_iff_ne.2 k0
          by_cases k1 : kd = 1
          · subst k1
            have hcl := cut_le N m
            have hcall := fun W h => cut_any tb t m ad cc W h N (by have := HSZ.out; omega)
            have hcall2 := fun W h => cutR_any rb m AR ca BR cb W h (by have := HSZ.out; omega) N (by have := HSZ.out; omega)
            obtain ⟨D, hD⟩ : ∃ D, cutM N m = D := ⟨_, rfl⟩
            rw [hD] at hcall hcall2 hcl
            have HC1 := Lib.hid hcall
            have HC2 := Lib.hid hcall2
            have HCL := Lib.hid hcl
            clear hcall hcall2 hcl hD
            have HBd := Lib.hid (below_drew HB.out)
            have HAd := Lib.hid (HA.out.below ((Below.refl wr.heap.size wr).drew))
            have HTd := Lib.hid (HT.out.below ((Below.refl wr.heap.size wr).drew))
            have f0 := (HB.out.cell (p := ab.add (k * 5)) lab).trans F0.out
            have f1 := (HB.out.cell (p := ⟨(ab.add (k * 5)).block, (ab.add (k * 5)).off + 1, none⟩) lab).trans F1.out
            have f2 := (HB.out.cell (p := ⟨(ab.add (k * 5)).block, (ab.add (k * 5)).off + 2, none⟩) lab).trans F2.out
            have f3 := (HB.out.cell (p := ⟨(ab.add (k * 5)).block, (ab.add (k * 5)).off + 3, none⟩) lab).trans F3.out
            have f4 := (HB.out.cell (p := ⟨(ab.add (k * 5)).block, (ab.add (k * 5)).off + 4, none⟩) lab).trans F4.out
            go_wp2_with fail
            clear f0 f1 f2 f3 f4
            refine wp_region_noPanic ?_
            refine wp_region_held_drew (S := fun W => W.cell? ⟨(ab.add (k * 5)).block, (ab.add (k * 5)).off + 4, none⟩ = some (.int .i64 N)) (by kernel_rfl) (((HBd.out).cell (p := ⟨(ab.add (k * 5)).block, (ab.add (k * 5)).off + 4, none⟩) lab).trans F4.out) (fun hHeld => ?_)
            refine wTake 0 ?_
            refine wTake 1 ?_
            refine wTake 2 ?_
            refine wTake 3 ?_
            refine wTake 4 ?_
            refine wTake 5 ?_
            refine wTake 7 ?_
            refine wTake 8 ?_
            refine wTake 9 ?_
            refine wTake 10 ?_
            refine wTake 11 ?_
            refine wTake 12 ?_
            try simp only [Act.put, List.setIfInBounds_toArray, List.set_cons_zero, List.set_cons_succ]
            refine wpAnyH_ready (rs := [6]) (by kernel_rfl) (by simp) (AllReadyH.cons rfl (fun K hK => ?_) AllReadyH.nil)
            go_simp
            refine (HC1.out _ HAd.out).mono ?_
            rintro e w8 ⟨ad8, c8, rfl, hA8, hK8⟩
            have A8 := Lib.hid hA8
            have T8 := Lib.hid (HTd.out.kb HAd.out.blk hK8)
            have B8 := Lib.hid (Kb.below HBd.out hK8 htb HBd.out.size)
            clear hA8 hK8
            go_wp2_with fail
            refine hK.out _ _ (((B8.out).cell (p := ⟨(ab.add (k * 5)).block, (ab.add (k * 5)).off + 4, none⟩) lab).trans F4.out) (fun hHeld => ?_)
            clear hK K
            try simp only [Act.put, List.setIfInBounds_toArray, List.set_cons_zero, List.set_cons_succ]
            refine wpAnyH_ready (rs := [13]) (by kernel_rfl) (by simp) (AllReadyH.cons rfl (fun K hK => ?_) AllReadyH.nil)
            go_simp
            refine (HC2.out _ T8.out).mono ?_
            rintro e w9 ⟨B9, cb9, rfl, hT9, hK9⟩
            have A9 := Lib.hid (rt_at T8.out hK9 A8.out)
            have B9w := Lib.hid (Kb.below B8.out hK9 Lrb.out B8.out.size)
            have T9 := Lib.hid hT9
            clear hT9 hK9
            go_wp2_with fail
            refine hK.out _ _ (((B9w.out).cell (p := ⟨(ab.add (k * 5)).block, (ab.add (k * 5)).off + 4, none⟩) lab).trans F4.out) (fun hHeld => ?_)
            clear hK K
            try simp only [Act.put, List.setIfInBounds_toArray, List.set_cons_zero, List.set_cons_succ]
            refine wTake 14 ?_
            try simp only [Act.put, List.setIfInBounds_toArray, List.set_cons_zero, List.set_cons_succ]
            refine wpAnyH_done (by kernel_rfl) ?_ _
            refine NoPanic.normal ?_
            clear hHeld
            go_wp2_with fail
            have hsz := (show D.1.row.length ≤ 8 * k + 8 ∧ D.1.hap.length ≤ 8 * k + 8 from by have h1 := HCL.out.2; have h2 := HSZ.out; rw [HCL.out.1]; omega)
            refine (alike_any tb t (D.1) ad8 c8 rb AR ca B9 cb9 w9 A9.out T9.out (by omega) (by omega)).mono ?_
            have HSZ2 := Lib.hid hsz
            clear hsz
            rintro e w4 ⟨rfl, hb⟩
            have T_8 := Lib.hid (T9.out.below hb)
            have At_9 := Lib.hid (A9.out.below hb)
            have B_10 := Lib.hid (below_next0 B9w.out hb)
            clear hb
            go_wp2
            go_roundw
            case rel => exact ⟨k + 1, tb, t, D.1, ad8, c8, AR, ca, B9, cb9, by omega, by go_num, rfl, Lib.hid At_9.out, Lib.hid T_8.out, Lib.hid B_10.out, htb, Lib.hid (by have := HSZ2.out; omega), Lib.hid (by rw [HCL.out.1]; exact HKS.out)⟩
            case measure => simp [intOf]; omega
          · have e1 : (kd == 1) = false := beq_eq_false_iff_ne.2 k1
            by_cases k2 : kd = 2
            · subst k2
              have f0 := (HB.out.cell (p := ab.add (k * 5)) lab).trans F0.out
              have f1 := (HB.out.cell (p := ⟨(ab.add (k * 5)).block, (ab.add (k * 5)).off + 1, none⟩) lab).trans F1.out
              have f2 := (HB.out.cell (p := ⟨(ab.add (k * 5)).block, (ab.add (k * 5)).off + 2, none⟩) lab).trans F2.out
              have f3 := (HB.out.cell (p := ⟨(ab.add (k * 5)).block, (ab.add (k * 5)).off + 3, none⟩) lab).trans F3.out
              have f4 := (HB.out.cell (p := ⟨(ab.add (k * 5)).block, (ab.add (k * 5)).off + 4, none⟩) lab).trans F4.out
              go_wp2_with fail
              clear f0 f1 f2 f3 f4
              refine (copy_any tb t (m) ad cc wr HA.out).mono ?_
              rintro e w4 ⟨c, rfl, hg, hA, hb⟩
              have Gc_8 := Lib.hid (Nat.le_trans HB.out.size hg)
              have N_9 := Lib.hid (show c ≠ tb from by have := blk_lt HA.out.blk; omega)
              have T_10 := Lib.hid (HT.out.below hb)
              have At_11 := Lib.hid (HA.out.below hb)
              have B_12 := Lib.hid (below_next0 HB.out hb)
              have Ac_13 := Lib.hid (hA)
              clear hg hA hb
              go_wp2_with fail
              have hq : (m.row.length ≤ 1000000000 ∧ m.row.length ≤ 1000000000) ∧ (m.hap.length ≤ 1000000000 ∧ m.hap.length ≤ 1000000000) := by (have := HSZ.out; omega)
              have HQ := Lib.hid hq
              clear hq
              have hcall := same_any c t (m) ad cc tb t (m) ad cc w4 Ac_13.out At_11.out HQ.out.1 HQ.out.2
              rw [sameM_self] at hcall
              refine hcall.mono ?_
              clear hcall
              rintro e w5 ⟨rfl, hb⟩
              have T_14 := Lib.hid (T_10.out.below hb)
              have At_15 := Lib.hid (At_11.out.below hb)
              have Ac_16 := Lib.hid (Ac_13.out.below hb)
              have B_17 := Lib.hid (below_next0 B_12.out hb)
              clear hb
              go_wp2_with fail
              refine (spoil_any tb t m ad cc w5 At_15.out (by have := HSZ.out; omega) (by have := HSZ.out; omega) HKS.out).mono ?_
              rintro e w6 ⟨v7, rfl, hK7⟩
              have Ac_18 := Lib.hid (Ac_16.out.kb At_15.out.blk N_9.out hK7)
              have T_19 := Lib.hid (T_14.out.kb At_15.out.blk hK7)
              have B_20 := Lib.hid (Kb.below B_17.out hK7 htb B_17.out.size)
              clear hK7
              go_wp2_with fail
              have hsz := (show m.row.length ≤ 8 * k + 8 ∧ m.hap.length ≤ 8 * k + 8 from by have h2 := HSZ.out; omega)
              refine (alike_any c t (m) ad cc rb AR ca BR cb w6 Ac_18.out T_19.out (by omega) (by omega)).mono ?_
              have HSZ2 := Lib.hid hsz
              clear hsz
              rintro e w7 ⟨rfl, hb⟩
              have T_21 := Lib.hid (T_19.out.below hb)
              have At_22 := Lib.hid (Ac_18.out.below hb)
              have B_23 := Lib.hid (below_next0 B_20.out hb)
              clear hb
              go_wp2
              go_roundw
              case rel => exact ⟨k + 1, c, t, m, ad, cc, AR, ca, BR, cb, by omega, by go_num, rfl, Lib.hid At_22.out, Lib.hid T_21.out, Lib.hid B_23.out, Gc_8.out, Lib.hid (by have := HSZ2.out; omega), Lib.hid (HKS.out)⟩
              case measure => simp [intOf]; omega
            · have e2 : (kd == 2) = false := beq_eq_false_iff_ne.2 k2
              have f0 := (HB.out.cell (p := ab.add (k * 5)) lab).trans F0.out
              have f1 := (HB.out.cell (p := ⟨(ab.add (k * 5)).block, (ab.add (k * 5)).off + 1, none⟩) lab).trans F1.out
              have f2 := (HB.out.cell (p := ⟨(ab.add (k * 5)).block, (ab.add (k * 5)).off + 2, none⟩) lab).trans F2.out
              have f3 := (HB.out.cell (p := ⟨(ab.add (k * 5)).block, (ab.add (k * 5)).off + 3, none⟩) lab).trans F3.out
              have f4 := (HB.out.cell (p := ⟨(ab.add (k * 5)).block, (ab.add (k * 5)).off + 4, none⟩) lab).trans F4.out
              go_wp2_with fail
              clear f0 f1 f2 f3 f4
              refine (asked_any tb t m ad cc rb AR ca BR cb wr HA.out HT.out (by have := HSZ.out; omega) (by have := HSZ.out; omega) (by have := HOK.out.lo; omega) HOK.out kd A0 c0 CS A1 c1 OS key N l0 (Kd.C_below G0.out HB.out) (by have := HLN.out; omega) HKEY.out).mono ?_
              rintro e w4 ⟨rfl, hb⟩
              have T_8 := Lib.hid (HT.out.below hb)
              have At_9 := Lib.hid (HA.out.below hb)
              have B_10 := Lib.hid (below_next0 HB.out hb)
              clear hb
              go_wp2_with fail
              have hsz := (show m.row.length ≤ 8 * k + 8 ∧ m.hap.length ≤ 8 * k + 8 from by have h2 := HSZ.out; omega)
              refine (alike_any tb t (m) ad cc rb AR ca BR cb w4 At_9.out T_8.out (by omega) (by omega)).mono ?_
              have HSZ2 := Lib.hid hsz
              clear hsz
              rintro e w5 ⟨rfl, hb⟩
              have T_11 := Lib.hid (T_8.out.below hb)
              have At_12 := Lib.hid (At_9.out.below hb)
              have B_13 := Lib.hid (below_next0 B_10.out hb)
              clear hb
              go_wp2
              go_roundw
              case rel => exact ⟨k + 1, tb, t, m, ad, cc, AR, ca, BR, cb, by omega, by go_num, rfl, Lib.hid At_12.out, Lib.hid T_11.out, Lib.hid B_13.out, htb, Lib.hid (by have := HSZ2.out; omega), Lib.hid (HKS.out)⟩
              case measure => simp [intOf]; omega
      · obtain rfl : k = l.length := by omega
        go_wp2_with fail
        refine (treeAwake_any wr).mono ?_
        rintro e w4 ⟨rfl, hb⟩
        have B_8 := Lib.hid (below_next0 HB.out hb)
        clear hb
        go_wp2
        go_ret
        exact ⟨rfl, B_8.out⟩
  · go_enter Try.func10, Try.ntmps10
    go_wp2_with fail
    refine (HW.out _ _ _ hc (Kd.C_below HC.out (Below.refl w.heap.size w))).mono ?_
    rintro e w1 ⟨rfl, hb⟩
    have B_1 := Lib.hid (below_next0 (Below.refl w.heap.size w) hb)
    clear hb
    go_wp2_with fail
    refine (treeAwake_any w1).mono ?_
    rintro e w2 ⟨rfl, hb⟩
    have B_2 := Lib.hid (below_next0 B_1.out hb)
    clear hb
    go_wp2
    go_ret
    exact ⟨rfl, B_2.out⟩
end Go.Proofs.Ytobanhbjkomieaa.TA
