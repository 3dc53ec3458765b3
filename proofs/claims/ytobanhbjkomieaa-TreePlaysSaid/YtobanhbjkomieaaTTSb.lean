import Derived.Test.YtobanhbjkomieaaTSSb
import Derived.Test.YtobanhbjkomieaaTVSb
namespace Go.Proofs.Ytobanhbjkomieaa.TA
open Go Go.RowKit Go.Proofs.Ytobanhbjkomieaa.KP Go.Proofs.YtobanhbjkomieaaW.PrintWords Go.Proofs.YtobanhbjkomieaaW.PrintLast Go.Proofs.YtobanhbjkomieaaW.PrintMore
open Go.Proofs.Ytobanhbjkomieaa.RP (wTake wSkip wOne wpAnyH_cast below_next0)
set_option linter.unusedSimpArgs false
set_option linter.unusedVariables false
def sameM (m m2 : Md) : Bool := m.rev == m2.rev && (m.low == m2.low && (decide (m.row = m2.row) && decide (m.hap = m2.hap)))
theorem listL_nil (l : List Ent) : listL ⟨#[]⟩ l = l := list_all rfl l
set_option maxHeartbeats 8000000 in
set_option maxRecDepth 100000 in
theorem same_any (ta : Nat) (t : AT) (m : Md) (ad : Option Addr) (c : Nat) (tb : Nat) (t2 : AT) (m2 : Md) (ad2 : Option Addr) (c2 : Nat) (w : World) (hA : At w ta t m ad c) (hB : At w tb t2 m2 ad2 c2) (hr : m.row.length ≤ 1000000000 ∧ m2.row.length ≤ 1000000000) (hh : m.hap.length ≤ 1000000000 ∧ m2.hap.length ≤ 1000000000) :
    Calls Try.prog 52 #[.pointer (some ⟨ta, 0, none⟩), .pointer (some ⟨tb, 0, none⟩)] w fun e w' => e = .returned (.bool (sameM m m2)) ∧ Below w.heap.size w w' := by
  by_cases g1 : m.rev = m2.rev
  · by_cases g2 : m.low = m2.low
    · by_cases g3 : m.row = m2.row
      · have e1 : (m.rev == m2.rev) = true := beq_iff_eq.2 g1
        have e2 : (m.low == m2.low) = true := beq_iff_eq.2 g2
        have hS : sameM m m2 = decide (m.hap = m2.hap) := by unfold sameM; simp [g1, g2, g3]
        have HG := Lib.hid g3
        clear g1 g2 g3
        have HA := Lib.hid hA
        have HB := Lib.hid hB
        clear hA hB
        go_enter Try.func52, Try.ntmps52
        go_wp2_with fail
        have hSB := Lib.hid (show ∀ W, Below w.heap.size w W → (fun W => W.cell? ⟨ta, 2, none⟩ = some (.int .i64 m.rev) ∧ W.cell? ⟨ta, 3, none⟩ = some (.int .i64 m.low) ∧ W.cell? ⟨ta, 4, none⟩ = some (.slice ad m.hap.length c) ∧ W.cell? ⟨tb, 2, none⟩ = some (.int .i64 m2.rev) ∧ W.cell? ⟨tb, 3, none⟩ = some (.int .i64 m2.low) ∧ W.cell? ⟨tb, 4, none⟩ = some (.slice ad2 m2.hap.length c2)) W from fun W hW => ⟨(hW.cell (p := ⟨ta, 2, none⟩) (blk_lt HA.out.blk)).trans ((blk_cell HA.out.blk 2).trans rfl), (hW.cell (p := ⟨ta, 3, none⟩) (blk_lt HA.out.blk)).trans ((blk_cell HA.out.blk 3).trans rfl), (hW.cell (p := ⟨ta, 4, none⟩) (blk_lt HA.out.blk)).trans ((blk_cell HA.out.blk 4).trans rfl), (hW.cell (p := ⟨tb, 2, none⟩) (blk_lt HB.out.blk)).trans ((blk_cell HB.out.blk 2).trans rfl), (hW.cell (p := ⟨tb, 3, none⟩) (blk_lt HB.out.blk)).trans ((blk_cell HB.out.blk 3).trans rfl), (hW.cell (p := ⟨tb, 4, none⟩) (blk_lt HB.out.blk)).trans ((blk_cell HB.out.blk 4).trans rfl)⟩)
        have hB0 := Lib.hid (show Below w.heap.size w w.drew from (Below.refl _ _).drew)
        refine wp_region_noPanic ?_
        refine wp_region_held_drew (S := fun W => W.cell? ⟨ta, 2, none⟩ = some (.int .i64 m.rev) ∧ W.cell? ⟨ta, 3, none⟩ = some (.int .i64 m.low) ∧ W.cell? ⟨ta, 4, none⟩ = some (.slice ad m.hap.length c) ∧ W.cell? ⟨tb, 2, none⟩ = some (.int .i64 m2.rev) ∧ W.cell? ⟨tb, 3, none⟩ = some (.int .i64 m2.low) ∧ W.cell? ⟨tb, 4, none⟩ = some (.slice ad2 m2.hap.length c2)) (by kernel_rfl) (hSB.out _ hB0.out) (fun hHeld => ?_)
        refine wTake 0 ?_
        refine wTake 1 ?_
        refine wTake 2 ?_
        refine wTake 3 ?_
        refine wTake 4 ?_
        refine wTake 5 ?_
        refine wTake 6 ?_
        refine wTake 7 ?_
        refine wTake 8 ?_
        refine wTake 9 ?_
        try simp only [Act.put, List.setIfInBounds_toArray, List.set_cons_zero, List.set_cons_succ]
        refine wTake 10 ?_
        try simp only [Act.put, List.setIfInBounds_toArray, List.set_cons_zero, List.set_cons_succ]
        refine wTake 11 ?_
        try simp only [Act.put, List.setIfInBounds_toArray, List.set_cons_zero, List.set_cons_succ]
        refine wTake 12 ?_
        try simp only [Act.put, List.setIfInBounds_toArray, List.set_cons_zero, List.set_cons_succ]
        refine wTake 13 ?_
        try simp only [Act.put, List.setIfInBounds_toArray, List.set_cons_zero, List.set_cons_succ]
        refine wTake 14 ?_
        try simp only [Act.put, List.setIfInBounds_toArray, List.set_cons_zero, List.set_cons_succ]
        refine wTake 15 ?_
        try simp only [Act.put, List.setIfInBounds_toArray, List.set_cons_zero, List.set_cons_succ]
        refine wTake 16 ?_
        try simp only [Act.put, List.setIfInBounds_toArray, List.set_cons_zero, List.set_cons_succ]
        refine wTake 17 ?_
        try simp only [Act.put, List.setIfInBounds_toArray, List.set_cons_zero, List.set_cons_succ]
        refine wTake 18 ?_
        refine wTake 19 ?_
        refine wTake 20 ?_
        try simp only [Act.put, List.setIfInBounds_toArray, List.set_cons_zero, List.set_cons_succ]
        refine wTake 21 ?_
        try simp only [Act.put, List.setIfInBounds_toArray, List.set_cons_zero, List.set_cons_succ]
        refine wTake 23 ?_
        try simp only [Act.put, List.setIfInBounds_toArray, List.set_cons_zero, List.set_cons_succ]
        refine wpAnyH_ready (rs := [22]) (by kernel_rfl) (by simp) (AllReadyH.cons rfl (fun K hK => ?_) AllReadyH.nil)
        go_simp
        refine (list_any ta t m ad c _ (HA.out.below hB0.out) ⟨#[]⟩ hr.1).mono ?_
        rintro e x1 ⟨V1, rfl, hR, hb⟩
        have B1 := Lib.hid (below_next0 hB0.out hb)
        rw [listL_nil] at hR
        obtain ⟨A1, d1, rfl, l1, hC⟩ := Kd.R_reads hR
        have Q0 := Lib.hid hC
        clear hR hC hb
        go_wp2_with fail
        refine hK.out _ _ (hSB.out _ B1.out) (fun hHeld => ?_)
        clear hK K
        try simp only [Act.put, List.setIfInBounds_toArray, List.set_cons_zero, List.set_cons_succ]
        refine wpAnyH_ready (rs := [24]) (by kernel_rfl) (by simp) (AllReadyH.cons rfl (fun K hK => ?_) AllReadyH.nil)
        go_simp
        refine (list_any tb t2 m2 ad2 c2 _ (HB.out.below B1.out) ⟨#[]⟩ hr.2).mono ?_
        rintro e x2 ⟨V2, rfl, hR, hb⟩
        have B2 := Lib.hid (below_next0 B1.out hb)
        rw [listL_nil] at hR
        have Q1 := Lib.hid (Kd.C_below Q0.out hb)
        obtain ⟨A2, d2, rfl, l2, hC⟩ := Kd.R_reads hR
        have Q2 := Lib.hid hC
        clear hR hC hb
        go_wp2_with fail
        refine hK.out _ _ (hSB.out _ B2.out) (fun hHeld => ?_)
        clear hK K
        try simp only [Act.put, List.setIfInBounds_toArray, List.set_cons_zero, List.set_cons_succ]
        refine wpAnyH_ready (rs := [25]) (by kernel_rfl) (by simp) (AllReadyH.cons rfl (fun K hK => ?_) AllReadyH.nil)
        go_simp
        refine (equalEnt_any _ _ m.row _ _ m2.row _ l1 l2 Q1.out Q2.out hr.1 hr.2).mono ?_
        rintro e x3 ⟨rfl, hb⟩
        have B3 := Lib.hid (below_next0 B2.out hb)
        clear hb
        rw [decide_eq_true HG.out]
        go_wp2_with fail
        refine hK.out _ _ (hSB.out _ B3.out) (fun hHeld => ?_)
        clear hK K
        try simp only [Act.put, List.setIfInBounds_toArray, List.set_cons_zero, List.set_cons_succ]
        refine wTake 26 ?_
        refine wTake 27 ?_
        try simp only [Act.put, List.setIfInBounds_toArray, List.set_cons_zero, List.set_cons_succ]
        refine wTake 28 ?_
        try simp only [Act.put, List.setIfInBounds_toArray, List.set_cons_zero, List.set_cons_succ]
        refine wTake 29 ?_
        try simp only [Act.put, List.setIfInBounds_toArray, List.set_cons_zero, List.set_cons_succ]
        refine wTake 30 ?_
        try simp only [Act.put, List.setIfInBounds_toArray, List.set_cons_zero, List.set_cons_succ]
        refine wTake 31 ?_
        try simp only [Act.put, List.setIfInBounds_toArray, List.set_cons_zero, List.set_cons_succ]
        refine wTake 32 ?_
        try simp only [Act.put, List.setIfInBounds_toArray, List.set_cons_zero, List.set_cons_succ]
        refine wTake 33 ?_
        try simp only [Act.put, List.setIfInBounds_toArray, List.set_cons_zero, List.set_cons_succ]
        refine wTake 34 ?_
        try simp only [Act.put, List.setIfInBounds_toArray, List.set_cons_zero, List.set_cons_succ]
        refine wTake 35 ?_
        try simp only [Act.put, List.setIfInBounds_toArray, List.set_cons_zero, List.set_cons_succ]
        refine wpAnyH_ready (rs := [36]) (by kernel_rfl) (by simp) (AllReadyH.cons rfl (fun K hK => ?_) AllReadyH.nil)
        go_simp
        refine (equalEvt_any _ _ m.hap _ _ m2.hap _ (HA.out.below B3.out).cap (HB.out.below B3.out).cap (HA.out.below B3.out).hap (HB.out.below B3.out).hap hh.1 hh.2).mono ?_
        rintro e x4 ⟨rfl, hb⟩
        have B4 := Lib.hid (below_next0 B3.out hb)
        clear hb
        go_wp2_with fail
        refine hK.out _ _ (hSB.out _ B4.out) (fun hHeld => ?_)
        clear hK K
        try simp only [Act.put, List.setIfInBounds_toArray, List.set_cons_zero, List.set_cons_succ]
        refine wTake 37 ?_
        refine wTake 38 ?_
        try simp only [Act.put, List.setIfInBounds_toArray, List.set_cons_zero, List.set_cons_succ]
        refine wpAnyH_done (by kernel_rfl) ?_ _
        refine NoPanic.normal ?_
        clear hHeld
        go_wp2
        go_ret
        exact ⟨by first | rfl | (rw [hS]; rfl), B4.out⟩
      · have e1 : (m.rev == m2.rev) = true := beq_iff_eq.2 g1
        have e2 : (m.low == m2.low) = true := beq_iff_eq.2 g2
        have hS : sameM m m2 = false := by unfold sameM; simp [g3]
        have HG := Lib.hid g3
        clear g1 g2 g3
        have HA := Lib.hid hA
        have HB := Lib.hid hB
        clear hA hB
        go_enter Try.func52, Try.ntmps52
        go_wp2_with fail
        have hSB := Lib.hid (show ∀ W, Below w.heap.size w W → (fun W => W.cell? ⟨ta, 2, none⟩ = some (.int .i64 m.rev) ∧ W.cell? ⟨ta, 3, none⟩ = some (.int .i64 m.low) ∧ W.cell? ⟨ta, 4, none⟩ = some (.slice ad m.hap.length c) ∧ W.cell? ⟨tb, 2, none⟩ = some (.int .i64 m2.rev) ∧ W.cell? ⟨tb, 3, none⟩ = some (.int .i64 m2.low) ∧ W.cell? ⟨tb, 4, none⟩ = some (.slice ad2 m2.hap.length c2)) W from fun W hW => ⟨(hW.cell (p := ⟨ta, 2, none⟩) (blk_lt HA.out.blk)).trans ((blk_cell HA.out.blk 2).trans rfl), (hW.cell (p := ⟨ta, 3, none⟩) (blk_lt HA.out.blk)).trans ((blk_cell HA.out.blk 3).trans rfl), (hW.cell (p := ⟨ta, 4, none⟩) (blk_lt HA.out.blk)).trans ((blk_cell HA.out.blk 4).trans rfl), (hW.cell (p := ⟨tb, 2, none⟩) (blk_lt HB.out.blk)).trans ((blk_cell HB.out.blk 2).trans rfl), (hW.cell (p := ⟨tb, 3, none⟩) (blk_lt HB.out.blk)).trans ((blk_cell HB.out.blk 3).trans rfl), (hW.cell (p := ⟨tb, 4, none⟩) (blk_lt HB.out.blk)).trans ((blk_cell HB.out.blk 4).trans rfl)⟩)
        have hB0 := Lib.hid (show Below w.heap.size w w.drew from (Below.refl _ _).drew)
        refine wp_region_noPanic ?_
        refine wp_region_held_drew (S := fun W => W.cell? ⟨ta, 2, none⟩ = some (.int .i64 m.rev) ∧ W.cell? ⟨ta, 3, none⟩ = some (.int .i64 m.low) ∧ W.cell? ⟨ta, 4, none⟩ = some (.slice ad m.hap.length c) ∧ W.cell? ⟨tb, 2, none⟩ = some (.int .i64 m2.rev) ∧ W.cell? ⟨tb, 3, none⟩ = some (.int .i64 m2.low) ∧ W.cell? ⟨tb, 4, none⟩ = some (.slice ad2 m2.hap.length c2)) (by kernel_rfl) (hSB.out _ hB0.out) (fun hHeld => ?_)
        refine wTake 0 ?_
        refine wTake 1 ?_
        refine wTake 2 ?_
        refine wTake 3 ?_
        refine wTake 4 ?_
        refine wTake 5 ?_
        refine wTake 6 ?_
        refine wTake 7 ?_
        refine wTake 8 ?_
        refine wTake 9 ?_
        try simp only [Act.put, List.setIfInBounds_toArray, List.set_cons_zero, List.set_cons_succ]
        refine wTake 10 ?_
        try simp only [Act.put, List.setIfInBounds_toArray, List.set_cons_zero, List.set_cons_succ]
        refine wTake 11 ?_
        try simp only [Act.put, List.setIfInBounds_toArray, List.set_cons_zero, List.set_cons_succ]
        refine wTake 12 ?_
        try simp only [Act.put, List.setIfInBounds_toArray, List.set_cons_zero, List.set_cons_succ]
        refine wTake 13 ?_
        try simp only [Act.put, List.setIfInBounds_toArray, List.set_cons_zero, List.set_cons_succ]
        refine wTake 14 ?_
        try simp only [Act.put, List.setIfInBounds_toArray, List.set_cons_zero, List.set_cons_succ]
        refine wTake 15 ?_
        try simp only [Act.put, List.setIfInBounds_toArray, List.set_cons_zero, List.set_cons_succ]
        refine wTake 16 ?_
        try simp only [Act.put, List.setIfInBounds_toArray, List.set_cons_zero, List.set_cons_succ]
        refine wTake 17 ?_
        try simp only [Act.put, List.setIfInBounds_toArray, List.set_cons_zero, List.set_cons_succ]
        refine wTake 18 ?_
        refine wTake 19 ?_
        refine wTake 20 ?_
        try simp only [Act.put, List.setIfInBounds_toArray, List.set_cons_zero, List.set_cons_succ]
        refine wTake 21 ?_
        try simp only [Act.put, List.setIfInBounds_toArray, List.set_cons_zero, List.set_cons_succ]
        refine wTake 23 ?_
        try simp only [Act.put, List.setIfInBounds_toArray, List.set_cons_zero, List.set_cons_succ]
        refine wpAnyH_ready (rs := [22]) (by kernel_rfl) (by simp) (AllReadyH.cons rfl (fun K hK => ?_) AllReadyH.nil)
        go_simp
        refine (list_any ta t m ad c _ (HA.out.below hB0.out) ⟨#[]⟩ hr.1).mono ?_
        rintro e x1 ⟨V1, rfl, hR, hb⟩
        have B1 := Lib.hid (below_next0 hB0.out hb)
        rw [listL_nil] at hR
        obtain ⟨A1, d1, rfl, l1, hC⟩ := Kd.R_reads hR
        have Q0 := Lib.hid hC
        clear hR hC hb
        go_wp2_with fail
        refine hK.out _ _ (hSB.out _ B1.out) (fun hHeld => ?_)
        clear hK K
        try simp only [Act.put, List.setIfInBounds_toArray, List.set_cons_zero, List.set_cons_succ]
        refine wpAnyH_ready (rs := [24]) (by kernel_rfl) (by simp) (AllReadyH.cons rfl (fun K hK => ?_) AllReadyH.nil)
        go_simp
        refine (list_any tb t2 m2 ad2 c2 _ (HB.out.below B1.out) ⟨#[]⟩ hr.2).mono ?_
        rintro e x2 ⟨V2, rfl, hR, hb⟩
        have B2 := Lib.hid (below_next0 B1.out hb)
        rw [listL_nil] at hR
        have Q1 := Lib.hid (Kd.C_below Q0.out hb)
        obtain ⟨A2, d2, rfl, l2, hC⟩ := Kd.R_reads hR
        have Q2 := Lib.hid hC
        clear hR hC hb
        go_wp2_with fail
        refine hK.out _ _ (hSB.out _ B2.out) (fun hHeld => ?_)
        clear hK K
        try simp only [Act.put, List.setIfInBounds_toArray, List.set_cons_zero, List.set_cons_succ]
        refine wpAnyH_ready (rs := [25]) (by kernel_rfl) (by simp) (AllReadyH.cons rfl (fun K hK => ?_) AllReadyH.nil)
        go_simp
        refine (equalEnt_any _ _ m.row _ _ m2.row _ l1 l2 Q1.out Q2.out hr.1 hr.2).mono ?_
        rintro e x3 ⟨rfl, hb⟩
        have B3 := Lib.hid (below_next0 B2.out hb)
        clear hb
        rw [decide_eq_false HG.out]
        go_wp2_with fail
        refine hK.out _ _ (hSB.out _ B3.out) (fun hHeld => ?_)
        clear hK K
        try simp only [Act.put, List.setIfInBounds_toArray, List.set_cons_zero, List.set_cons_succ]
        refine wTake 26 ?_
        refine wTake 27 ?_
        try simp only [Act.put, List.setIfInBounds_toArray, List.set_cons_zero, List.set_cons_succ]
        refine wSkip 28 ?_
        try simp only [Act.put, List.setIfInBounds_toArray, List.set_cons_zero, List.set_cons_succ]
        refine wSkip 29 ?_
        try simp only [Act.put, List.setIfInBounds_toArray, List.set_cons_zero, List.set_cons_succ]
        refine wSkip 30 ?_
        try simp only [Act.put, List.setIfInBounds_toArray, List.set_cons_zero, List.set_cons_succ]
        refine wSkip 31 ?_
        try simp only [Act.put, List.setIfInBounds_toArray, List.set_cons_zero, List.set_cons_succ]
        refine wSkip 32 ?_
        try simp only [Act.put, List.setIfInBounds_toArray, List.set_cons_zero, List.set_cons_succ]
        refine wSkip 33 ?_
        try simp only [Act.put, List.setIfInBounds_toArray, List.set_cons_zero, List.set_cons_succ]
        refine wSkip 34 ?_
        try simp only [Act.put, List.setIfInBounds_toArray, List.set_cons_zero, List.set_cons_succ]
        refine wSkip 35 ?_
        try simp only [Act.put, List.setIfInBounds_toArray, List.set_cons_zero, List.set_cons_succ]
        refine wSkip 36 ?_
        refine wTake 37 ?_
        refine wTake 38 ?_
        try simp only [Act.put, List.setIfInBounds_toArray, List.set_cons_zero, List.set_cons_succ]
        refine wpAnyH_done (by kernel_rfl) ?_ _
        refine NoPanic.normal ?_
        clear hHeld
        go_wp2
        go_ret
        exact ⟨by first | rfl | (rw [hS]; rfl), B3.out⟩
    · have e1 : (m.rev == m2.rev) = true := beq_iff_eq.2 g1
      have e2 : (m.low == m2.low) = false := beq_eq_false_iff_ne.2 g2
      have hS : sameM m m2 = false := by unfold sameM; simp [g2]
      clear g1 g2
      have HA := Lib.hid hA
      have HB := Lib.hid hB
      clear hA hB
      go_enter Try.func52, Try.ntmps52
      go_wp2_with fail
      have hSB := Lib.hid (show ∀ W, Below w.heap.size w W → (fun W => W.cell? ⟨ta, 2, none⟩ = some (.int .i64 m.rev) ∧ W.cell? ⟨ta, 3, none⟩ = some (.int .i64 m.low) ∧ W.cell? ⟨ta, 4, none⟩ = some (.slice ad m.hap.length c) ∧ W.cell? ⟨tb, 2, none⟩ = some (.int .i64 m2.rev) ∧ W.cell? ⟨tb, 3, none⟩ = some (.int .i64 m2.low) ∧ W.cell? ⟨tb, 4, none⟩ = some (.slice ad2 m2.hap.length c2)) W from fun W hW => ⟨(hW.cell (p := ⟨ta, 2, none⟩) (blk_lt HA.out.blk)).trans ((blk_cell HA.out.blk 2).trans rfl), (hW.cell (p := ⟨ta, 3, none⟩) (blk_lt HA.out.blk)).trans ((blk_cell HA.out.blk 3).trans rfl), (hW.cell (p := ⟨ta, 4, none⟩) (blk_lt HA.out.blk)).trans ((blk_cell HA.out.blk 4).trans rfl), (hW.cell (p := ⟨tb, 2, none⟩) (blk_lt HB.out.blk)).trans ((blk_cell HB.out.blk 2).trans rfl), (hW.cell (p := ⟨tb, 3, none⟩) (blk_lt HB.out.blk)).trans ((blk_cell HB.out.blk 3).trans rfl), (hW.cell (p := ⟨tb, 4, none⟩) (blk_lt HB.out.blk)).trans ((blk_cell HB.out.blk 4).trans rfl)⟩)
      have hB0 := Lib.hid (show Below w.heap.size w w.drew from (Below.refl _ _).drew)
      refine wp_region_noPanic ?_
      refine wp_region_held_drew (S := fun W => W.cell? ⟨ta, 2, none⟩ = some (.int .i64 m.rev) ∧ W.cell? ⟨ta, 3, none⟩ = some (.int .i64 m.low) ∧ W.cell? ⟨ta, 4, none⟩ = some (.slice ad m.hap.length c) ∧ W.cell? ⟨tb, 2, none⟩ = some (.int .i64 m2.rev) ∧ W.cell? ⟨tb, 3, none⟩ = some (.int .i64 m2.low) ∧ W.cell? ⟨tb, 4, none⟩ = some (.slice ad2 m2.hap.length c2)) (by kernel_rfl) (hSB.out _ hB0.out) (fun hHeld => ?_)
      refine wTake 0 ?_
      refine wTake 1 ?_
      refine wTake 2 ?_
      refine wTake 3 ?_
      refine wTake 4 ?_
      refine wTake 5 ?_
      refine wTake 6 ?_
      refine wTake 7 ?_
      refine wTake 8 ?_
      refine wTake 9 ?_
      try simp only [Act.put, List.setIfInBounds_toArray, List.set_cons_zero, List.set_cons_succ]
      refine wTake 10 ?_
      try simp only [Act.put, List.setIfInBounds_toArray, List.set_cons_zero, List.set_cons_succ]
      refine wTake 11 ?_
      try simp only [Act.put, List.setIfInBounds_toArray, List.set_cons_zero, List.set_cons_succ]
      refine wTake 12 ?_
      try simp only [Act.put, List.setIfInBounds_toArray, List.set_cons_zero, List.set_cons_succ]
      refine wTake 13 ?_
      try simp only [Act.put, List.setIfInBounds_toArray, List.set_cons_zero, List.set_cons_succ]
      refine wTake 14 ?_
      try simp only [Act.put, List.setIfInBounds_toArray, List.set_cons_zero, List.set_cons_succ]
      refine wTake 15 ?_
      try simp only [Act.put, List.setIfInBounds_toArray, List.set_cons_zero, List.set_cons_succ]
      refine wTake 16 ?_
      try simp only [Act.put, List.setIfInBounds_toArray, List.set_cons_zero, List.set_cons_succ]
      refine wTake 17 ?_
      try simp only [Act.put, List.setIfInBounds_toArray, List.set_cons_zero, List.set_cons_succ]
      refine wTake 18 ?_
      refine wTake 19 ?_
      refine wTake 20 ?_
      try simp only [Act.put, List.setIfInBounds_toArray, List.set_cons_zero, List.set_cons_succ]
      refine wSkip 21 ?_
      try simp only [Act.put, List.setIfInBounds_toArray, List.set_cons_zero, List.set_cons_succ]
      refine wSkip 22 ?_
      try simp only [Act.put, List.setIfInBounds_toArray, List.set_cons_zero, List.set_cons_succ]
      refine wSkip 23 ?_
      try simp only [Act.put, List.setIfInBounds_toArray, List.set_cons_zero, List.set_cons_succ]
      refine wSkip 24 ?_
      try simp only [Act.put, List.setIfInBounds_toArray, List.set_cons_zero, List.set_cons_succ]
      refine wSkip 25 ?_
      refine wTake 26 ?_
      refine wTake 27 ?_
      try simp only [Act.put, List.setIfInBounds_toArray, List.set_cons_zero, List.set_cons_succ]
      refine wSkip 28 ?_
      try simp only [Act.put, List.setIfInBounds_toArray, List.set_cons_zero, List.set_cons_succ]
      refine wSkip 29 ?_
      try simp only [Act.put, List.setIfInBounds_toArray, List.set_cons_zero, List.set_cons_succ]
      refine wSkip 30 ?_
      try simp only [Act.put, List.setIfInBounds_toArray, List.set_cons_zero, List.set_cons_succ]
      refine wSkip 31 ?_
      try simp only [Act.put, List.setIfInBounds_toArray, List.set_cons_zero, List.set_cons_succ]
      refine wSkip 32 ?_
      try simp only [Act.put, List.setIfInBounds_toArray, List.set_cons_zero, List.set_cons_succ]
      refine wSkip 33 ?_
      try simp only [Act.put, List.setIfInBounds_toArray, List.set_cons_zero, List.set_cons_succ]
      refine wSkip 34 ?_
      try simp only [Act.put, List.setIfInBounds_toArray, List.set_cons_zero, List.set_cons_succ]
      refine wSkip 35 ?_
      try simp only [Act.put, List.setIfInBounds_toArray, List.set_cons_zero, List.set_cons_succ]
      refine wSkip 36 ?_
      refine wTake 37 ?_
      refine wTake 38 ?_
      try simp only [Act.put, List.setIfInBounds_toArray, List.set_cons_zero, List.set_cons_succ]
      refine wpAnyH_done (by kernel_rfl) ?_ _
      refine NoPanic.normal ?_
      clear hHeld
      go_wp2
      go_ret
      exact ⟨by first | rfl | (rw [hS]; rfl), hB0.out⟩
  · have e1 : (m.rev == m2.rev) = false := beq_eq_false_iff_ne.2 g1
    have hS : sameM m m2 = false := by unfold sameM; simp [g1]
    clear g1
    have HA := Lib.hid hA
    have HB := Lib.hid hB
    clear hA hB
    go_enter Try.func52, Try.ntmps52
    go_wp2_with fail
    have hSB := Lib.hid (show ∀ W, Below w.heap.size w W → (fun W => W.cell? ⟨ta, 2, none⟩ = some (.int .i64 m.rev) ∧ W.cell? ⟨ta, 3, none⟩ = some (.int .i64 m.low) ∧ W.cell? ⟨ta, 4, none⟩ = some (.slice ad m.hap.length c) ∧ W.cell? ⟨tb, 2, none⟩ = some (.int .i64 m2.rev) ∧ W.cell? ⟨tb, 3, none⟩ = some (.int .i64 m2.low) ∧ W.cell? ⟨tb, 4, none⟩ = some (.slice ad2 m2.hap.length c2)) W from fun W hW => ⟨(hW.cell (p := ⟨ta, 2, none⟩) (blk_lt HA.out.blk)).trans ((blk_cell HA.out.blk 2).trans rfl), (hW.cell (p := ⟨ta, 3, none⟩) (blk_lt HA.out.blk)).trans ((blk_cell HA.out.blk 3).trans rfl), (hW.cell (p := ⟨ta, 4, none⟩) (blk_lt HA.out.blk)).trans ((blk_cell HA.out.blk 4).trans rfl), (hW.cell (p := ⟨tb, 2, none⟩) (blk_lt HB.out.blk)).trans ((blk_cell HB.out.blk 2).trans rfl), (hW.cell (p := ⟨tb, 3, none⟩) (blk_lt HB.out.blk)).trans ((blk_cell HB.out.blk 3).trans rfl), (hW.cell (p := ⟨tb, 4, none⟩) (blk_lt HB.out.blk)).trans ((blk_cell HB.out.blk 4).trans rfl)⟩)
    have hB0 := Lib.hid (show Below w.heap.size w w.drew from (Below.refl _ _).drew)
    refine wp_region_noPanic ?_
    refine wp_region_held_drew (S := fun W => W.cell? ⟨ta, 2, none⟩ = some (.int .i64 m.rev) ∧ W.cell? ⟨ta, 3, none⟩ = some (.int .i64 m.low) ∧ W.cell? ⟨ta, 4, none⟩ = some (.slice ad m.hap.length c) ∧ W.cell? ⟨tb, 2, none⟩ = some (.int .i64 m2.rev) ∧ W.cell? ⟨tb, 3, none⟩ = some (.int .i64 m2.low) ∧ W.cell? ⟨tb, 4, none⟩ = some (.slice ad2 m2.hap.length c2)) (by kernel_rfl) (hSB.out _ hB0.out) (fun hHeld => ?_)
    refine wTake 0 ?_
    refine wTake 1 ?_
    refine wTake 2 ?_
    refine wTake 3 ?_
    refine wTake 4 ?_
    refine wTake 5 ?_
    refine wTake 6 ?_
    refine wTake 7 ?_
    refine wTake 8 ?_
    refine wTake 9 ?_
    try simp only [Act.put, List.setIfInBounds_toArray, List.set_cons_zero, List.set_cons_succ]
    refine wSkip 10 ?_
    try simp only [Act.put, List.setIfInBounds_toArray, List.set_cons_zero, List.set_cons_succ]
    refine wSkip 11 ?_
    try simp only [Act.put, List.setIfInBounds_toArray, List.set_cons_zero, List.set_cons_succ]
    refine wSkip 12 ?_
    try simp only [Act.put, List.setIfInBounds_toArray, List.set_cons_zero, List.set_cons_succ]
    refine wSkip 13 ?_
    try simp only [Act.put, List.setIfInBounds_toArray, List.set_cons_zero, List.set_cons_succ]
    refine wSkip 14 ?_
    try simp only [Act.put, List.setIfInBounds_toArray, List.set_cons_zero, List.set_cons_succ]
    refine wSkip 15 ?_
    try simp only [Act.put, List.setIfInBounds_toArray, List.set_cons_zero, List.set_cons_succ]
    refine wSkip 16 ?_
    try simp only [Act.put, List.setIfInBounds_toArray, List.set_cons_zero, List.set_cons_succ]
    refine wSkip 17 ?_
    try simp only [Act.put, List.setIfInBounds_toArray, List.set_cons_zero, List.set_cons_succ]
    refine wSkip 18 ?_
    refine wTake 19 ?_
    refine wTake 20 ?_
    try simp only [Act.put, List.setIfInBounds_toArray, List.set_cons_zero, List.set_cons_succ]
    refine wSkip 21 ?_
    try simp only [Act.put, List.setIfInBounds_toArray, List.set_cons_zero, List.set_cons_succ]
    refine wSkip 22 ?_
    try simp only [Act.put, List.setIfInBounds_toArray, List.set_cons_zero, List.set_cons_succ]
    refine wSkip 23 ?_
    try simp only [Act.put, List.setIfInBounds_toArray, List.set_cons_zero, List.set_cons_succ]
    refine wSkip 24 ?_
    try simp only [Act.put, List.setIfInBounds_toArray, List.set_cons_zero, List.set_cons_succ]
    refine wSkip 25 ?_
    refine wTake 26 ?_
    refine wTake 27 ?_
    try simp only [Act.put, List.setIfInBounds_toArray, List.set_cons_zero, List.set_cons_succ]
    refine wSkip 28 ?_
    try simp only [Act.put, List.setIfInBounds_toArray, List.set_cons_zero, List.set_cons_succ]
    refine wSkip 29 ?_
    try simp only [Act.put, List.setIfInBounds_toArray, List.set_cons_zero, List.set_cons_succ]
    refine wSkip 30 ?_
    try simp only [Act.put, List.setIfInBounds_toArray, List.set_cons_zero, List.set_cons_succ]
    refine wSkip 31 ?_
    try simp only [Act.put, List.setIfInBounds_toArray, List.set_cons_zero, List.set_cons_succ]
    refine wSkip 32 ?_
    try simp only [Act.put, List.setIfInBounds_toArray, List.set_cons_zero, List.set_cons_succ]
    refine wSkip 33 ?_
    try simp only [Act.put, List.setIfInBounds_toArray, List.set_cons_zero, List.set_cons_succ]
    refine wSkip 34 ?_
    try simp only [Act.put, List.setIfInBounds_toArray, List.set_cons_zero, List.set_cons_succ]
    refine wSkip 35 ?_
    try simp only [Act.put, List.setIfInBounds_toArray, List.set_cons_zero, List.set_cons_succ]
    refine wSkip 36 ?_
    refine wTake 37 ?_
    refine wTake 38 ?_
    try simp only [Act.put, List.setIfInBounds_toArray, List.set_cons_zero, List.set_cons_succ]
    refine wpAnyH_done (by kernel_rfl) ?_ _
    refine NoPanic.normal ?_
    clear hHeld
    go_wp2
    go_ret
    exact ⟨by first | rfl | (rw [hS]; rfl), hB0.out⟩
end Go.Proofs.Ytobanhbjkomieaa.TA
