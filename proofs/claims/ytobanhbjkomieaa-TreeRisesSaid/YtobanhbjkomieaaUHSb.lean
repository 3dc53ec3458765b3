import Derived.Test.YtobanhbjkomieaaUCSb
namespace Go.Proofs.Ytobanhbjkomieaa.TA
open Go Go.RowKit Go.Proofs.Ytobanhbjkomieaa.KP Go.Proofs.YtobanhbjkomieaaW.PrintWords Go.Proofs.YtobanhbjkomieaaW.PrintLast Go.Proofs.YtobanhbjkomieaaW.PrintMore
open Go.Proofs.Ytobanhbjkomieaa.RP (wTake wSkip wOne wpAnyH_cast below_next0)
set_option linter.unusedSimpArgs false
set_option linter.unusedVariables false
attribute [local go_sem high] EQ.eqA62
def anyK (os : List Opn) (k : ByteArray) : Bool := os.any fun o => o.key.toList == k.toList
theorem anyK_succ {os : List Opn} {j : Nat} (h : j < os.length) (k : ByteArray) : anyK (os.take (j + 1)) k = (anyK (os.take j) k || os[j].key.toList == k.toList) := by
  unfold anyK
  rw [take_snoc h, List.any_append]
  simp
theorem foldl_takeC {α β : Type} (f : β → α → β) (l : List α) {k : Nat} (h : k < l.length) (b : β) : (l.take (k + 1)).foldl f b = f ((l.take k).foldl f b) l[k] := by
  rw [take_snoc h, List.foldl_append]
  rfl
theorem cnt_bd (l : List Ent) : ∀ (os : List Opn) (n : Int), n - os.length ≤ os.foldl (cntO l) n ∧ os.foldl (cntO l) n ≤ n + os.length
  | [], n => by simp
  | o :: os, n => by
    have h := cnt_bd l os (cntO l n o)
    have h2 : n - 1 ≤ cntO l n o ∧ cntO l n o ≤ n + 1 := by unfold cntO; split <;> split <;> omega
    simp only [List.foldl_cons, List.length_cons]
    omega
theorem weight_any (x : TxP) (hx : okX x) : ∃ r : Int, ∀ (A0 : Option Addr) (c0 : Nat) (A1 : Option Addr) (c1 : Nat) (w : World), x.f0.length ≤ c0 → Kd.C PTr.k73 w A0 x.f0.length x.f0 → x.f1.length ≤ c1 → Kd.C PTr.k85 w A1 x.f1.length x.f1 →
    Calls Try.prog 57 #[.agg #[.slice A0 (toX x).cs.length c0, .slice A1 (toX x).os.length c1]] w fun e w' => e = .returned (.int .i64 r) ∧ Below w.heap.size w w' := by
  obtain ⟨r, hr, _, _⟩ := weight_ev x.f0 x.f1 hx.1.2 hx.2.2
  refine ⟨r, fun A0 c0 A1 c1 w h0 g0 h1 g1 => ?_⟩
  rw [show (toX x).cs.length = x.f0.length from List.length_map _, show (toX x).os.length = x.f1.length from List.length_map _]
  exact ev_calls hr (fun k hk => PTr.batonlaw12_weight.calls k A0 c0 x.f0 A1 c1 x.f1 r w g0 h0 g1 h1 hk)
theorem txn_cells {w : World} {x : TxP} {xc : Array Value} (h : PTr.k34.K w x xc.toList) : ∃ A0 c0 A1 c1, xc = #[.slice A0 (toX x).cs.length c0, .slice A1 (toX x).os.length c1] ∧ x.f0.length ≤ c0 ∧ Kd.C PTr.k73 w A0 x.f0.length x.f0 ∧ x.f1.length ≤ c1 ∧ Kd.C PTr.k85 w A1 x.f1.length x.f1 := by
  obtain ⟨A0, c0, A1, c1, e, l0, g0, l1, g1⟩ := PTr.k34_open h
  refine ⟨A0, c0, A1, c1, Array.toList_inj.1 ?_, l0, g0, l1, g1⟩
  rw [e, show (toX x).cs.length = x.f0.length from List.length_map _, show (toX x).os.length = x.f1.length from List.length_map _]
set_option maxHeartbeats 16000000 in
set_option maxRecDepth 100000 in
theorem TreeRises_walk (A : Option Addr) (c : Nat) (l : List TxP) (xc : Array Value) (x : TxP) (w : World) (hc : l.length ≤ c) (hC : Kd.C PTr.k34 w A l.length l) (ok : (∀ x ∈ l, okX x) ∧ l.length ≤ maxLen) (hK : PTr.k34.K w x xc.toList) (ok2 : okX x) :
    Calls Try.prog 8 #[.slice A l.length c, .agg xc] w fun e w' => e = .returned (.bool true) ∧ Below w.heap.size w w' := by
  obtain ⟨b, hb5, hw⟩ := wide_any l ok.2 ok.1
  obtain ⟨wt, hwt⟩ := weight_any x ok2
  obtain ⟨A0, c0, A1, c1, rfl, k0, g0, k1, g1⟩ := txn_cells hK
  have hot := okT_of ok2
  have gc := C_toC g0
  have go := C_toO g1
  have k0' : (toX x).cs.length ≤ c0 := by rw [show (toX x).cs.length = x.f0.length from List.length_map _]; exact k0
  have k1' : (toX x).os.length ≤ c1 := by rw [show (toX x).os.length = x.f1.length from List.length_map _]; exact k1
  rw [show x.f0.length = (toX x).cs.length from (List.length_map _).symm] at gc
  rw [show x.f1.length = (toX x).os.length from (List.length_map _).symm] at go
  have gc : Kd.C kCnd w A0 (toX x).cs.length (toX x).cs := gc
  have go : Kd.C kOpn w A1 (toX x).os.length (toX x).os := go
  obtain ⟨CS, hCS⟩ : ∃ CS, (toX x).cs = CS := ⟨_, rfl⟩
  obtain ⟨OS, hOS⟩ : ∃ OS, (toX x).os = OS := ⟨_, rfl⟩
  have hot : (∀ c ∈ CS, c.key.size ≤ 9223372036854775807) ∧ ∀ o ∈ OS, o.key.size ≤ 9223372036854775807 := by rw [← hCS, ← hOS]; exact hot
  rw [hCS] at gc k0' hwt ⊢
  rw [hOS] at go k1' hwt ⊢
  have HC := Lib.hid hC
  have HX := Lib.hid ok.1
  have HW := Lib.hid hw
  have HWT := Lib.hid hwt
  have G0 := Lib.hid g0
  have G1 := Lib.hid g1
  have GC := Lib.hid gc
  have GO := Lib.hid go
  have HOK := Lib.hid hot
  clear hC ok hw hwt g0 g1 gc go hot hK ok2 hCS hOS
  cases b
  · have h5 := hb5 rfl
    clear hb5
    by_cases h4 : (4000 : Int) ≤ wt
    · go_enter Try.func8, Try.ntmps8
      go_wp2_with fail
      obtain ⟨xb, hxb⟩ : ∃ X, X = w.heap.size := ⟨_, rfl⟩
      try rw [← hxb]
      have hb : Below w.heap.size w (w.alloc (.cells #[.slice A0 CS.length c0, .slice A1 OS.length c1] 34)) := below_alloc (Below.refl _ _) _
      have hN : (w.alloc (.cells #[.slice A0 CS.length c0, .slice A1 OS.length c1] 34)).heap[xb]? = some (.cells #[.slice A0 CS.length c0, .slice A1 OS.length c1] 34 (0, 0)) := hxb ▸ heap_alloc_new w (.cells #[.slice A0 CS.length c0, .slice A1 OS.length c1] 34)
      clear hxb
      generalize w.alloc (.cells #[.slice A0 CS.length c0, .slice A1 OS.length c1] 34) = w1 at *
      have B_1 := Lib.hid (below_next0 (Below.refl w.heap.size w) hb)
      clear hb
      have Hxb_2 := Lib.hid (hN)
      clear hN
      refine (HW.out _ _ _ hc (Kd.C_below HC.out B_1.out)).mono ?_
      rintro e w2 ⟨rfl, hb⟩
      have Hxb_3 := Lib.hid ((hb.block _ (blk_lt Hxb_2.out)).trans Hxb_2.out)
      have B_4 := Lib.hid (below_next0 B_1.out hb)
      clear hb
      have q0 := blk_cell Hxb_3.out 0
      have q1 := blk_cell Hxb_3.out 1
      simp only [List.getElem?_toArray, List.getElem?_cons_zero, List.getElem?_cons_succ] at q0 q1
      have ql := blk_lt Hxb_3.out
      go_wp2_with fail
      clear q0 q1 ql
      refine (HWT.out A0 c0 A1 c1 w2 k0 (Kd.C_below G0.out B_4.out) k1 (Kd.C_below G1.out B_4.out)).mono ?_
      rintro e w3 ⟨rfl, hb⟩
      have Hxb_5 := Lib.hid ((hb.block _ (blk_lt Hxb_3.out)).trans Hxb_3.out)
      have B_6 := Lib.hid (below_next0 B_4.out hb)
      clear hb
      go_wp2_with fail
      refine (treeAwake_any w3).mono ?_
      rintro e w4 ⟨rfl, hb⟩
      have Hxb_7 := Lib.hid ((hb.block _ (blk_lt Hxb_5.out)).trans Hxb_5.out)
      have B_8 := Lib.hid (below_next0 B_6.out hb)
      clear hb
      go_wp2
      go_ret
      exact ⟨rfl, B_8.out⟩
    · obtain ⟨M, hM⟩ : ∃ M, run may (l.map toX) Md.new = M := ⟨_, rfl⟩
      have HM := Lib.hid hM
      have hg := gr_run (l.map toX)
      rw [hM, List.length_map] at hg
      have HGr := Lib.hid hg
      have hw : wrap64 (M.rev + 1) = M.rev + 1 := by (have := hg.rev; unfold wrap64; omega)
      have hrv := hg.rev
      have hbM : M.row.length ≤ 100000000 ∧ M.hap.length ≤ 100000000 := by (have h1 := hg.row; have h2 := hg.hap; omega)
      have hb2M : (M.row.length ≤ 1000000000 ∧ M.row.length ≤ 1000000000) ∧ (M.hap.length ≤ 1000000000 ∧ M.hap.length ≤ 1000000000) := by omega
      have hr4 : M.rev ≠ 1099511627776 := by omega
      clear hM hg
      cases hm : mayTx CS OS
      · have HMY := Lib.hid hm
        have HD := Lib.hid (show doM (mayTx CS OS) CS OS M = (M, [], false, 4) from by unfold doM; simp [hm])
        clear hm
        go_enter Try.func8, Try.ntmps8
        go_wp2_with fail
        obtain ⟨xb, hxb⟩ : ∃ X, X = w.heap.size := ⟨_, rfl⟩
        try rw [← hxb]
        have hb : Below w.heap.size w (w.alloc (.cells #[.slice A0 CS.length c0, .slice A1 OS.length c1] 34)) := below_alloc (Below.refl _ _) _
        have hN : (w.alloc (.cells #[.slice A0 CS.length c0, .slice A1 OS.length c1] 34)).heap[xb]? = some (.cells #[.slice A0 CS.length c0, .slice A1 OS.length c1] 34 (0, 0)) := hxb ▸ heap_alloc_new w (.cells #[.slice A0 CS.length c0, .slice A1 OS.length c1] 34)
        clear hxb
        generalize w.alloc (.cells #[.slice A0 CS.length c0, .slice A1 OS.length c1] 34) = w1 at *
        have B_1 := Lib.hid (below_next0 (Below.refl w.heap.size w) hb)
        clear hb
        have Hxb_2 := Lib.hid (hN)
        clear hN
        refine (HW.out _ _ _ hc (Kd.C_below HC.out B_1.out)).mono ?_
        rintro e w2 ⟨rfl, hb⟩
        have Hxb_3 := Lib.hid ((hb.block _ (blk_lt Hxb_2.out)).trans Hxb_2.out)
        have B_4 := Lib.hid (below_next0 B_1.out hb)
        clear hb
        have q0 := blk_cell Hxb_3.out 0
        have q1 := blk_cell Hxb_3.out 1
        simp only [List.getElem?_toArray, List.getElem?_cons_zero, List.getElem?_cons_succ] at q0 q1
        have ql := blk_lt Hxb_3.out
        go_wp2_with fail
        clear q0 q1 ql
        refine (HWT.out A0 c0 A1 c1 w2 k0 (Kd.C_below G0.out B_4.out) k1 (Kd.C_below G1.out B_4.out)).mono ?_
        rintro e w3 ⟨rfl, hb⟩
        have Hxb_5 := Lib.hid ((hb.block _ (blk_lt Hxb_3.out)).trans Hxb_3.out)
        have B_6 := Lib.hid (below_next0 B_4.out hb)
        clear hb
        go_wp2_with fail
        refine (treeAwake_any w3).mono ?_
        rintro e w4 ⟨rfl, hb⟩
        have Hxb_7 := Lib.hid ((hb.block _ (blk_lt Hxb_5.out)).trans Hxb_5.out)
        have B_8 := Lib.hid (below_next0 B_6.out hb)
        clear hb
        go_wp2_with fail
        refine (grown_any A c l w4 hc (Kd.C_below HC.out B_8.out) HX.out h5).mono ?_
        rintro e w5 ⟨g, t_9, ad_10, c_11, rfl, hg, hA, hb⟩
        have Gg_12 := Lib.hid (Nat.le_trans B_8.out.size hg)
        have Hxb_13 := Lib.hid ((hb.block _ (blk_lt Hxb_7.out)).trans Hxb_7.out)
        have B_14 := Lib.hid (below_next0 B_8.out hb)
        rw [HM.out] at hA
        have Ag_15 := Lib.hid (hA)
        clear hg hA hb
        go_wp2_with fail
        refine (copy_any g t_9 (M) ad_10 c_11 w5 Ag_15.out).mono ?_
        rintro e w6 ⟨wb, rfl, hg, hA, hb⟩
        have Gwb_16 := Lib.hid (Nat.le_trans B_14.out.size hg)
        have N_17 := Lib.hid (show wb ≠ g from by have := blk_lt Ag_15.out.blk; omega)
        have Ag_18 := Lib.hid (Ag_15.out.below hb)
        have Hxb_19 := Lib.hid ((hb.block _ (blk_lt Hxb_13.out)).trans Hxb_13.out)
        have B_20 := Lib.hid (below_next0 B_14.out hb)
        have Awb_21 := Lib.hid (hA)
        clear hg hA hb
        have q0 := blk_cell Hxb_19.out 0
        have q1 := blk_cell Hxb_19.out 1
        simp only [List.getElem?_toArray, List.getElem?_cons_zero, List.getElem?_cons_succ] at q0 q1
        have ql := blk_lt Hxb_19.out
        go_wp2_with fail
        clear q0 q1 ql
        have hcall := do_any g t_9 (M) ad_10 c_11 w6 Ag_18.out A0 c0 CS A1 c1 OS k0' (Kd.C_below GC.out B_20.out) k1' (Kd.C_below GO.out B_20.out) HOK.out hbM.1 hbM.2
        rw [HD.out] at hcall
        refine hcall.mono ?_
        clear hcall
        rintro e w7 ⟨V, t_22, ad_23, c_24, rfl, hR, hA, hK⟩
        obtain ⟨vA, vc, rfl⟩ := Kd.R_slice hR
        clear hR
        have Awb_25 := Lib.hid (Awb_21.out.kb Ag_18.out.blk N_17.out hK)
        have Hxb_26 := Lib.hid (hK.blk Hxb_19.out (far_type Ag_18.out.blk Hxb_19.out (by decide)))
        have B_27 := Lib.hid (Kb.below B_20.out hK Gg_12.out B_20.out.size)
        have Ag_28 := Lib.hid (hA)
        clear hA hK
        go_wp2_with fail
        have hcall := same_any wb t_9 (M) ad_10 c_11 g t_22 (M) ad_23 c_24 w7 Awb_25.out Ag_28.out hb2M.1 hb2M.2
        rw [sameM_self] at hcall
        refine hcall.mono ?_
        clear hcall
        rintro e w8 ⟨rfl, hb⟩
        have Ag_29 := Lib.hid (Ag_28.out.below hb)
        have Awb_30 := Lib.hid (Awb_25.out.below hb)
        have Hxb_31 := Lib.hid ((hb.block _ (blk_lt Hxb_26.out)).trans Hxb_26.out)
        have B_32 := Lib.hid (below_next0 B_27.out hb)
        clear hb
        have q0 := blk_cell Hxb_31.out 0
        have q1 := blk_cell Hxb_31.out 1
        simp only [List.getElem?_toArray, List.getElem?_cons_zero, List.getElem?_cons_succ] at q0 q1
        have ql := blk_lt Hxb_31.out
        go_wp2_with fail
        clear q0 q1 ql
        refine (mayTxn_all A0 c0 CS A1 c1 OS w8 k0' (Kd.C_below GC.out B_32.out) k1' (Kd.C_below GO.out B_32.out) HOK.out).mono ?_
        rintro e w9 ⟨rfl, hb⟩
        rw [HMY.out]
        have Ag_33 := Lib.hid (Ag_29.out.below hb)
        have Awb_34 := Lib.hid (Awb_30.out.below hb)
        have Hxb_35 := Lib.hid ((hb.block _ (blk_lt Hxb_31.out)).trans Hxb_31.out)
        have B_36 := Lib.hid (below_next0 B_32.out hb)
        clear hb
        go_wp2
        go_ret
        exact ⟨by first | rfl | (simp; done), B_36.out⟩
      · have HMY := Lib.hid hm
        cases hh : holdsL CS M.row
        · have HHL := Lib.hid hh
          have HD := Lib.hid (show doM (mayTx CS OS) CS OS M = (M, [], false, 0) from by unfold doM; simp [hm, hh])
          clear hm hh
          go_enter Try.func8, Try.ntmps8
          go_wp2_with fail
          obtain ⟨xb, hxb⟩ : ∃ X, X = w.heap.size := ⟨_, rfl⟩
          try rw [← hxb]
          have hb : Below w.heap.size w (w.alloc (.cells #[.slice A0 CS.length c0, .slice A1 OS.length c1] 34)) := below_alloc (Below.refl _ _) _
          have hN : (w.alloc (.cells #[.slice A0 CS.length c0, .slice A1 OS.length c1] 34)).heap[xb]? = some (.cells #[.slice A0 CS.length c0, .slice A1 OS.length c1] 34 (0, 0)) := hxb ▸ heap_alloc_new w (.cells #[.slice A0 CS.length c0, .slice A1 OS.length c1] 34)
          clear hxb
          generalize w.alloc (.cells #[.slice A0 CS.length c0, .slice A1 OS.length c1] 34) = w1 at *
          have B_1 := Lib.hid (below_next0 (Below.refl w.heap.size w) hb)
          clear hb
          have Hxb_2 := Lib.hid (hN)
          clear hN
          refine (HW.out _ _ _ hc (Kd.C_below HC.out B_1.out)).mono ?_
          rintro e w2 ⟨rfl, hb⟩
          have Hxb_3 := Lib.hid ((hb.block _ (blk_lt Hxb_2.out)).trans Hxb_2.out)
          have B_4 := Lib.hid (below_next0 B_1.out hb)
          clear hb
          have q0 := blk_cell Hxb_3.out 0
          have q1 := blk_cell Hxb_3.out 1
          simp only [List.getElem?_toArray, List.getElem?_cons_zero, List.getElem?_cons_succ] at q0 q1
          have ql := blk_lt Hxb_3.out
          go_wp2_with fail
          clear q0 q1 ql
          refine (HWT.out A0 c0 A1 c1 w2 k0 (Kd.C_below G0.out B_4.out) k1 (Kd.C_below G1.out B_4.out)).mono ?_
          rintro e w3 ⟨rfl, hb⟩
          have Hxb_5 := Lib.hid ((hb.block _ (blk_lt Hxb_3.out)).trans Hxb_3.out)
          have B_6 := Lib.hid (below_next0 B_4.out hb)
          clear hb
          go_wp2_with fail
          refine (treeAwake_any w3).mono ?_
          rintro e w4 ⟨rfl, hb⟩
          have Hxb_7 := Lib.hid ((hb.block _ (blk_lt Hxb_5.out)).trans Hxb_5.out)
          have B_8 := Lib.hid (below_next0 B_6.out hb)
          clear hb
          go_wp2_with fail
          refine (grown_any A c l w4 hc (Kd.C_below HC.out B_8.out) HX.out h5).mono ?_
          rintro e w5 ⟨g, t_9, ad_10, c_11, rfl, hg, hA, hb⟩
          have Gg_12 := Lib.hid (Nat.le_trans B_8.out.size hg)
          have Hxb_13 := Lib.hid ((hb.block _ (blk_lt Hxb_7.out)).trans Hxb_7.out)
          have B_14 := Lib.hid (below_next0 B_8.out hb)
          rw [HM.out] at hA
          have Ag_15 := Lib.hid (hA)
          clear hg hA hb
          go_wp2_with fail
          refine (copy_any g t_9 (M) ad_10 c_11 w5 Ag_15.out).mono ?_
          rintro e w6 ⟨wb, rfl, hg, hA, hb⟩
          have Gwb_16 := Lib.hid (Nat.le_trans B_14.out.size hg)
          have N_17 := Lib.hid (show wb ≠ g from by have := blk_lt Ag_15.out.blk; omega)
          have Ag_18 := Lib.hid (Ag_15.out.below hb)
          have Hxb_19 := Lib.hid ((hb.block _ (blk_lt Hxb_13.out)).trans Hxb_13.out)
          have B_20 := Lib.hid (below_next0 B_14.out hb)
          have Awb_21 := Lib.hid (hA)
          clear hg hA hb
          have q0 := blk_cell Hxb_19.out 0
          have q1 := blk_cell Hxb_19.out 1
          simp only [List.getElem?_toArray, List.getElem?_cons_zero, List.getElem?_cons_succ] at q0 q1
          have ql := blk_lt Hxb_19.out
          go_wp2_with fail
          clear q0 q1 ql
          have hcall := do_any g t_9 (M) ad_10 c_11 w6 Ag_18.out A0 c0 CS A1 c1 OS k0' (Kd.C_below GC.out B_20.out) k1' (Kd.C_below GO.out B_20.out) HOK.out hbM.1 hbM.2
          rw [HD.out] at hcall
          refine hcall.mono ?_
          clear hcall
          rintro e w7 ⟨V, t_22, ad_23, c_24, rfl, hR, hA, hK⟩
          obtain ⟨vA, vc, rfl⟩ := Kd.R_slice hR
          clear hR
          have Awb_25 := Lib.hid (Awb_21.out.kb Ag_18.out.blk N_17.out hK)
          have Hxb_26 := Lib.hid (hK.blk Hxb_19.out (far_type Ag_18.out.blk Hxb_19.out (by decide)))
          have B_27 := Lib.hid (Kb.below B_20.out hK Gg_12.out B_20.out.size)
          have Ag_28 := Lib.hid (hA)
          clear hA hK
          go_wp2_with fail
          have hcall := same_any wb t_9 (M) ad_10 c_11 g t_22 (M) ad_23 c_24 w7 Awb_25.out Ag_28.out hb2M.1 hb2M.2
          rw [sameM_self] at hcall
          refine hcall.mono ?_
          clear hcall
          rintro e w8 ⟨rfl, hb⟩
          have Ag_29 := Lib.hid (Ag_28.out.below hb)
          have Awb_30 := Lib.hid (Awb_25.out.below hb)
          have Hxb_31 := Lib.hid ((hb.block _ (blk_lt Hxb_26.out)).trans Hxb_26.out)
          have B_32 := Lib.hid (below_next0 B_27.out hb)
          clear hb
          have q0 := blk_cell Hxb_31.out 0
          have q1 := blk_cell Hxb_31.out 1
          simp only [List.getElem?_toArray, List.getElem?_cons_zero, List.getElem?_cons_succ] at q0 q1
          have ql := blk_lt Hxb_31.out
          go_wp2_with fail
          clear q0 q1 ql
          refine (mayTxn_all A0 c0 CS A1 c1 OS w8 k0' (Kd.C_below GC.out B_32.out) k1' (Kd.C_below GO.out B_32.out) HOK.out).mono ?_
          rintro e w9 ⟨rfl, hb⟩
          rw [HMY.out]
          have Ag_33 := Lib.hid (Ag_29.out.below hb)
          have Awb_34 := Lib.hid (Awb_30.out.below hb)
          have Hxb_35 := Lib.hid ((hb.block _ (blk_lt Hxb_31.out)).trans Hxb_31.out)
          have B_36 := Lib.hid (below_next0 B_32.out hb)
          clear hb
          have q0 := blk_cell Hxb_35.out 0
          have q1 := blk_cell Hxb_35.out 1
          simp only [List.getElem?_toArray, List.getElem?_cons_zero, List.getElem?_cons_succ] at q0 q1
          have ql := blk_lt Hxb_35.out
          go_wp2_with fail
          clear q0 q1 ql
          refine (holds_any wb t_9 (M) ad_10 c_11 w9 Awb_34.out A0 c0 CS k0' (Kd.C_below GC.out B_36.out) (by have := (mayTx_len HMY.out).1; omega)).mono ?_
          rintro e w10 ⟨rfl, hb⟩
          rw [HHL.out]
          have Ag_37 := Lib.hid (Ag_33.out.below hb)
          have Awb_38 := Lib.hid (Awb_34.out.below hb)
          have Hxb_39 := Lib.hid ((hb.block _ (blk_lt Hxb_35.out)).trans Hxb_35.out)
          have B_40 := Lib.hid (below_next0 B_36.out hb)
          clear hb
          go_wp2
          go_ret
          exact ⟨by first | rfl | (simp; done), B_40.out⟩
        · have HHL := Lib.hid hh
          by_cases ho : OS.length = 0
          · have E1 := Lib.hid (show ((OS.length : Int) == 0) = true from by rw [ho]; rfl)
            have HD := Lib.hid (show doM (mayTx CS OS) CS OS M = (M, [], true, 0) from by rw [hm]; unfold doM; simp [hh, List.length_eq_zero_iff.1 ho])
            clear hm hh ho
            go_enter Try.func8, Try.ntmps8
            go_wp2_with fail
            obtain ⟨xb, hxb⟩ : ∃ X, X = w.heap.size := ⟨_, rfl⟩
            try rw [← hxb]
            have hb : Below w.heap.size w (w.alloc (.cells #[.slice A0 CS.length c0, .slice A1 OS.length c1] 34)) := below_alloc (Below.refl _ _) _
            have hN : (w.alloc (.cells #[.slice A0 CS.length c0, .slice A1 OS.length c1] 34)).heap[xb]? = some (.cells #[.slice A0 CS.length c0, .slice A1 OS.length c1] 34 (0, 0)) := hxb ▸ heap_alloc_new w (.cells #[.slice A0 CS.length c0, .slice A1 OS.length c1] 34)
            clear hxb
            generalize w.alloc (.cells #[.slice A0 CS.length c0, .slice A1 OS.length c1] 34) = w1 at *
            have B_1 := Lib.hid (below_next0 (Below.refl w.heap.size w) hb)
            clear hb
            have Hxb_2 := Lib.hid (hN)
            clear hN
            refine (HW.out _ _ _ hc (Kd.C_below HC.out B_1.out)).mono ?_
            rintro e w2 ⟨rfl, hb⟩
            have Hxb_3 := Lib.hid ((hb.block _ (blk_lt Hxb_2.out)).trans Hxb_2.out)
            have B_4 := Lib.hid (below_next0 B_1.out hb)
            clear hb
            have q0 := blk_cell Hxb_3.out 0
            have q1 := blk_cell Hxb_3.out 1
            simp only [List.getElem?_toArray, List.getElem?_cons_zero, List.getElem?_cons_succ] at q0 q1
            have ql := blk_lt Hxb_3.out
            go_wp2_with fail
            clear q0 q1 ql
            refine (HWT.out A0 c0 A1 c1 w2 k0 (Kd.C_below G0.out B_4.out) k1 (Kd.C_below G1.out B_4.out)).mono ?_
            rintro e w3 ⟨rfl, hb⟩
            have Hxb_5 := Lib.hid ((hb.block _ (blk_lt Hxb_3.out)).trans Hxb_3.out)
            have B_6 := Lib.hid (below_next0 B_4.out hb)
            clear hb
            go_wp2_with fail
            refine (treeAwake_any w3).mono ?_
            rintro e w4 ⟨rfl, hb⟩
            have Hxb_7 := Lib.hid ((hb.block _ (blk_lt Hxb_5.out)).trans Hxb_5.out)
            have B_8 := Lib.hid (below_next0 B_6.out hb)
            clear hb
            go_wp2_with fail
            refine (grown_any A c l w4 hc (Kd.C_below HC.out B_8.out) HX.out h5).mono ?_
            rintro e w5 ⟨g, t_9, ad_10, c_11, rfl, hg, hA, hb⟩
            have Gg_12 := Lib.hid (Nat.le_trans B_8.out.size hg)
            have Hxb_13 := Lib.hid ((hb.block _ (blk_lt Hxb_7.out)).trans Hxb_7.out)
            have B_14 := Lib.hid (below_next0 B_8.out hb)
            rw [HM.out] at hA
            have Ag_15 := Lib.hid (hA)
            clear hg hA hb
            go_wp2_with fail
            refine (copy_any g t_9 (M) ad_10 c_11 w5 Ag_15.out).mono ?_
            rintro e w6 ⟨wb, rfl, hg, hA, hb⟩
            have Gwb_16 := Lib.hid (Nat.le_trans B_14.out.size hg)
            have N_17 := Lib.hid (show wb ≠ g from by have := blk_lt Ag_15.out.blk; omega)
            have Ag_18 := Lib.hid (Ag_15.out.below hb)
            have Hxb_19 := Lib.hid ((hb.block _ (blk_lt Hxb_13.out)).trans Hxb_13.out)
            have B_20 := Lib.hid (below_next0 B_14.out hb)
            have Awb_21 := Lib.hid (hA)
            clear hg hA hb
            have q0 := blk_cell Hxb_19.out 0
            have q1 := blk_cell Hxb_19.out 1
            simp only [List.getElem?_toArray, List.getElem?_cons_zero, List.getElem?_cons_succ] at q0 q1
            have ql := blk_lt Hxb_19.out
            go_wp2_with fail
            clear q0 q1 ql
            have hcall := do_any g t_9 (M) ad_10 c_11 w6 Ag_18.out A0 c0 CS A1 c1 OS k0' (Kd.C_below GC.out B_20.out) k1' (Kd.C_below GO.out B_20.out) HOK.out hbM.1 hbM.2
            rw [HD.out] at hcall
            refine hcall.mono ?_
            clear hcall
            rintro e w7 ⟨V, t_22, ad_23, c_24, rfl, hR, hA, hK⟩
            obtain ⟨vA, vc, rfl⟩ := Kd.R_slice hR
            clear hR
            have Awb_25 := Lib.hid (Awb_21.out.kb Ag_18.out.blk N_17.out hK)
            have Hxb_26 := Lib.hid (hK.blk Hxb_19.out (far_type Ag_18.out.blk Hxb_19.out (by decide)))
            have B_27 := Lib.hid (Kb.below B_20.out hK Gg_12.out B_20.out.size)
            have Ag_28 := Lib.hid (hA)
            clear hA hK
            have q0 := blk_cell Hxb_26.out 0
            have q1 := blk_cell Hxb_26.out 1
            simp only [List.getElem?_toArray, List.getElem?_cons_zero, List.getElem?_cons_succ] at q0 q1
            have ql := blk_lt Hxb_26.out
            have e1 : ((OS.length : Int) == 0) = true := E1.out
            go_wp2_with fail
            clear e1
            clear q0 q1 ql
            have hcall := same_any wb t_9 (M) ad_10 c_11 g t_22 (M) ad_23 c_24 w7 Awb_25.out Ag_28.out hb2M.1 hb2M.2
            rw [sameM_self] at hcall
            refine hcall.mono ?_
            clear hcall
            rintro e w8 ⟨rfl, hb⟩
            have Ag_29 := Lib.hid (Ag_28.out.below hb)
            have Awb_30 := Lib.hid (Awb_25.out.below hb)
            have Hxb_31 := Lib.hid ((hb.block _ (blk_lt Hxb_26.out)).trans Hxb_26.out)
            have B_32 := Lib.hid (below_next0 B_27.out hb)
            clear hb
            have q0 := blk_cell Hxb_31.out 0
            have q1 := blk_cell Hxb_31.out 1
            simp only [List.getElem?_toArray, List.getElem?_cons_zero, List.getElem?_cons_succ] at q0 q1
            have ql := blk_lt Hxb_31.out
            go_wp2_with fail
            clear q0 q1 ql
            refine (mayTxn_all A0 c0 CS A1 c1 OS w8 k0' (Kd.C_below GC.out B_32.out) k1' (Kd.C_below GO.out B_32.out) HOK.out).mono ?_
            rintro e w9 ⟨rfl, hb⟩
            rw [HMY.out]
            have Ag_33 := Lib.hid (Ag_29.out.below hb)
            have Awb_34 := Lib.hid (Awb_30.out.below hb)
            have Hxb_35 := Lib.hid ((hb.block _ (blk_lt Hxb_31.out)).trans Hxb_31.out)
            have B_36 := Lib.hid (below_next0 B_32.out hb)
            clear hb
            have q0 := blk_cell Hxb_35.out 0
            have q1 := blk_cell Hxb_35.out 1
            simp only [List.getElem?_toArray, List.getElem?_cons_zero, List.getElem?_cons_succ] at q0 q1
            have ql := blk_lt Hxb_35.out
            go_wp2_with fail
            clear q0 q1 ql
            refine (holds_any wb t_9 (M) ad_10 c_11 w9 Awb_34.out A0 c0 CS k0' (Kd.C_below GC.out B_36.out) (by have := (mayTx_len HMY.out).1; omega)).mono ?_
            rintro e w10 ⟨rfl, hb⟩
            rw [HHL.out]
            have Ag_37 := Lib.hid (Ag_33.out.below hb)
            have Awb_38 := Lib.hid (Awb_34.out.below hb)
            have Hxb_39 := Lib.hid ((hb.block _ (blk_lt Hxb_35.out)).trans Hxb_35.out)
            have B_40 := Lib.hid (below_next0 B_36.out hb)
            clear hb
            go_wp2
            go_ret
            exact ⟨by first | rfl | (simp; done), B_40.out⟩
          · have E1 := Lib.hid (show ((OS.length : Int) == 0) = false from beq_eq_false_iff_ne.2 (by omega))
            have hon : OS ≠ [] := fun e => ho (by rw [e]; rfl)
            have hD := do_ops hh hon hr4
            rw [← hm] at hD
            have hap := (mayTx_ops hm).2
            have hol := (mayTx_len hm).2
            have HLR := Lib.hid (opsL_length (rev := M.rev + 1) hap HGr.out.ok.srt)
            have hsame := fun o ho => opsL_get_same (rev := M.rev + 1) hap HGr.out.ok.srt o ho
            have hother := fun k hk => opsL_get_other (rev := M.rev + 1) (os := OS) (k := k) hk HGr.out.ok.srt
            have hle := opsL_le (rev := M.rev + 1) (os := OS) (l := M.row)
            obtain ⟨R1, hR1⟩ : ∃ R1, (opsL (M.rev + 1) OS M.row).1 = R1 := ⟨_, rfl⟩
            obtain ⟨V1, hV1⟩ : ∃ V1, (opsL (M.rev + 1) OS M.row).2 = V1 := ⟨_, rfl⟩
            rw [hR1, hV1] at hD hle
            rw [hR1] at HLR hsame hother
            have HD := Lib.hid hD
            have HSA := Lib.hid hsame
            have HOT := Lib.hid hother
            have hR1b : R1.length ≤ 1000000 := by (have := HGr.out.row; omega)
            have hnb : M.row.length ≤ 4000 := by (have := HGr.out.row; omega)
            clear hm hh ho hon hD hap hsame hother hle hR1 hV1
            go_enter Try.func8, Try.ntmps8
            go_wp2_with fail
            obtain ⟨xb, hxb⟩ : ∃ X, X = w.heap.size := ⟨_, rfl⟩
            try rw [← hxb]
            have hb : Below w.heap.size w (w.alloc (.cells #[.slice A0 CS.length c0, .slice A1 OS.length c1] 34)) := below_alloc (Below.refl _ _) _
            have hN : (w.alloc (.cells #[.slice A0 CS.length c0, .slice A1 OS.length c1] 34)).heap[xb]? = some (.cells #[.slice A0 CS.length c0, .slice A1 OS.length c1] 34 (0, 0)) := hxb ▸ heap_alloc_new w (.cells #[.slice A0 CS.length c0, .slice A1 OS.length c1] 34)
            clear hxb
            generalize w.alloc (.cells #[.slice A0 CS.length c0, .slice A1 OS.length c1] 34) = w1 at *
            have B_1 := Lib.hid (below_next0 (Below.refl w.heap.size w) hb)
            clear hb
            have Hxb_2 := Lib.hid (hN)
            clear hN
            refine (HW.out _ _ _ hc (Kd.C_below HC.out B_1.out)).mono ?_
            rintro e w2 ⟨rfl, hb⟩
            have Hxb_3 := Lib.hid ((hb.block _ (blk_lt Hxb_2.out)).trans Hxb_2.out)
            have B_4 := Lib.hid (below_next0 B_1.out hb)
            clear hb
            have q0 := blk_cell Hxb_3.out 0
            have q1 := blk_cell Hxb_3.out 1
            simp only [List.getElem?_toArray, List.getElem?_cons_zero, List.getElem?_cons_succ] at q0 q1
            have ql := blk_lt Hxb_3.out
            go_wp2_with fail
            clear q0 q1 ql
            refine (HWT.out A0 c0 A1 c1 w2 k0 (Kd.C_below G0.out B_4.out) k1 (Kd.C_below G1.out B_4.out)).mono ?_
            rintro e w3 ⟨rfl, hb⟩
            have Hxb_5 := Lib.hid ((hb.block _ (blk_lt Hxb_3.out)).trans Hxb_3.out)
            have B_6 := Lib.hid (below_next0 B_4.out hb)
            clear hb
            go_wp2_with fail
            refine (treeAwake_any w3).mono ?_
            rintro e w4 ⟨rfl, hb⟩
            have Hxb_7 := Lib.hid ((hb.block _ (blk_lt Hxb_5.out)).trans Hxb_5.out)
            have B_8 := Lib.hid (below_next0 B_6.out hb)
            clear hb
            go_wp2_with fail
            refine (grown_any A c l w4 hc (Kd.C_below HC.out B_8.out) HX.out h5).mono ?_
            rintro e w5 ⟨g, t_9, ad_10, c_11, rfl, hg, hA, hb⟩
            have Gg_12 := Lib.hid (Nat.le_trans B_8.out.size hg)
            have Hxb_13 := Lib.hid ((hb.block _ (blk_lt Hxb_7.out)).trans Hxb_7.out)
            have B_14 := Lib.hid (below_next0 B_8.out hb)
            rw [HM.out] at hA
            have Ag_15 := Lib.hid (hA)
            clear hg hA hb
            go_wp2_with fail
            refine (copy_any g t_9 (M) ad_10 c_11 w5 Ag_15.out).mono ?_
            rintro e w6 ⟨wb, rfl, hg, hA, hb⟩
            have Gwb_16 := Lib.hid (Nat.le_trans B_14.out.size hg)
            have N_17 := Lib.hid (show wb ≠ g from by have := blk_lt Ag_15.out.blk; omega)
            have Ag_18 := Lib.hid (Ag_15.out.below hb)
            have Hxb_19 := Lib.hid ((hb.block _ (blk_lt Hxb_13.out)).trans Hxb_13.out)
            have B_20 := Lib.hid (below_next0 B_14.out hb)
            have Awb_21 := Lib.hid (hA)
            clear hg hA hb
            have q0 := blk_cell Hxb_19.out 0
            have q1 := blk_cell Hxb_19.out 1
            simp only [List.getElem?_toArray, List.getElem?_cons_zero, List.getElem?_cons_succ] at q0 q1
            have ql := blk_lt Hxb_19.out
            go_wp2_with fail
            clear q0 q1 ql
            have hcall := do_any g t_9 (M) ad_10 c_11 w6 Ag_18.out A0 c0 CS A1 c1 OS k0' (Kd.C_below GC.out B_20.out) k1' (Kd.C_below GO.out B_20.out) HOK.out hbM.1 hbM.2
            rw [HD.out] at hcall
            refine hcall.mono ?_
            clear hcall
            rintro e w7 ⟨V, t_22, ad_23, c_24, rfl, hR, hA, hK⟩
            obtain ⟨vA, vc, rfl⟩ := Kd.R_slice hR
            clear hR
            have Awb_25 := Lib.hid (Awb_21.out.kb Ag_18.out.blk N_17.out hK)
            have Hxb_26 := Lib.hid (hK.blk Hxb_19.out (far_type Ag_18.out.blk Hxb_19.out (by decide)))
            have B_27 := Lib.hid (Kb.below B_20.out hK Gg_12.out B_20.out.size)
            have Ag_28 := Lib.hid (hA)
            clear hA hK
            have q0 := blk_cell Hxb_26.out 0
            have q1 := blk_cell Hxb_26.out 1
            simp only [List.getElem?_toArray, List.getElem?_cons_zero, List.getElem?_cons_succ] at q0 q1
            have ql := blk_lt Hxb_26.out
            have e1 := E1.out
            go_wp2_with fail
            clear e1
            clear q0 q1 ql
            refine (rev_any g t_22 (⟨R1, M.rev + 1, M.low, M.hap ++ V1⟩) ad_23 c_24 w7 Ag_28.out).mono ?_
            rintro e w8 ⟨rfl, hb⟩
            have Ag_29 := Lib.hid (Ag_28.out.below hb)
            have Awb_30 := Lib.hid (Awb_25.out.below hb)
            have Hxb_31 := Lib.hid ((hb.block _ (blk_lt Hxb_26.out)).trans Hxb_26.out)
            have B_32 := Lib.hid (below_next0 B_27.out hb)
            clear hb
            go_wp2_with fail
            refine (rev_any wb t_9 (M) ad_10 c_11 w8 Awb_30.out).mono ?_
            rintro e w9 ⟨rfl, hb⟩
            have Ag_33 := Lib.hid (Ag_29.out.below hb)
            have Awb_34 := Lib.hid (Awb_30.out.below hb)
            have Hxb_35 := Lib.hid ((hb.block _ (blk_lt Hxb_31.out)).trans Hxb_31.out)
            have B_36 := Lib.hid (below_next0 B_32.out hb)
            clear hb
            have q0 := blk_cell Hxb_35.out 0
            have q1 := blk_cell Hxb_35.out 1
            simp only [List.getElem?_toArray, List.getElem?_cons_zero, List.getElem?_cons_succ] at q0 q1
            have ql := blk_lt Hxb_35.out
            go_wp2_with fail
            clear q0 q1 ql
            refine (holds_any wb t_9 (M) ad_10 c_11 w9 Awb_34.out A0 c0 CS k0' (Kd.C_below GC.out B_36.out) (by have := (mayTx_len HMY.out).1; omega)).mono ?_
            rintro e w10 ⟨rfl, hb⟩
            rw [HHL.out]
            have Ag_37 := Lib.hid (Ag_33.out.below hb)
            have Awb_38 := Lib.hid (Awb_34.out.below hb)
            have Hxb_39 := Lib.hid ((hb.block _ (blk_lt Hxb_35.out)).trans Hxb_35.out)
            have B_40 := Lib.hid (below_next0 B_36.out hb)
            clear hb
            go_wp2_with fail
            refine (len_any wb t_9 (M) ad_10 c_11 w10 Awb_38.out).mono ?_
            rintro e w11 ⟨rfl, hb⟩
            have Ag_41 := Lib.hid (Ag_37.out.below hb)
            have Awb_42 := Lib.hid (Awb_38.out.below hb)
            have Hxb_43 := Lib.hid ((hb.block _ (blk_lt Hxb_39.out)).trans Hxb_39.out)
            have B_44 := Lib.hid (below_next0 B_40.out hb)
            clear hb
            go_wp2_with fail
            have GO0 := Lib.hid (Kd.C_below GO.out B_44.out)
            go_loopw [10, 11] (fun nv i wr => ∃ k : Nat, k ≤ OS.length ∧ i = .int .i64 k ∧ nv = .int .i64 ((OS.take k).foldl (cntO M.row) M.row.length) ∧ Hid (Below w11.heap.size w11 wr)) (fun _ i _ => OS.length - (intOf i).toNat)
            case atStart => exact ⟨0, by omega, rfl, rfl, Lib.hid (Below.refl _ _)⟩
            case round =>
              obtain ⟨k, hk, rfl, rfl, HB⟩ := hrel
              have hcb := cnt_bd M.row (OS.take k) M.row.length
              rw [List.length_take] at hcb
              by_cases hlt : k < OS.length
              · have B_45 := Lib.hid (HB.out)
                have A_46 := Lib.hid (Ag_41.out.below B_45.out)
                have A_47 := Lib.hid (Awb_42.out.below B_45.out)
                have H_48 := Lib.hid ((B_45.out.block _ (blk_lt Hxb_43.out)).trans Hxb_43.out)
                have C_49 := Lib.hid (Kd.C_below GO0.out B_45.out)
                have i0 : (0 : Int) ≤ (k : Int) := by omega
                have i1 : (k : Int) < (OS.length : Int) := by omega
                obtain ⟨ab, e0, f0, f1, f2⟩ := at_Opn C_49.out hlt
                cases e0
                have hct := foldl_takeC (cntO M.row) OS hlt (M.row.length : Int)
                have hsa := HSA.out _ (List.getElem_mem hlt)
                obtain ⟨O, hO⟩ : ∃ O, OS[k] = O := ⟨_, rfl⟩
                rw [hO] at f0 f1 f2 hct hsa
                obtain ⟨q, hq⟩ : ∃ q, ((OS.take k).foldl (cntO M.row) M.row.length) = q := ⟨_, rfl⟩
                rw [hq] at hct hcb ⊢
                have hqb : -100000 ≤ q ∧ q ≤ 100000 := by omega
                have HCT := Lib.hid hct
                have HSO := Lib.hid hsa
                clear hct hsa hO hq hcb
                cases hdl : O.del
                · rw [hdl] at f0
                  have HDL := Lib.hid hdl
                  clear hdl
                  cases hgl : getL O.key M.row with
                  | none =>
                    have HGL := Lib.hid hgl
                    have hcall := fun t ad c W hW => treeGet_any wb t M ad c W hW O.key
                    rw [show getD O.key M.row = noEnt from by unfold getD; rw [hgl]; rfl, hgl] at hcall
                    have HGT := Lib.hid hcall
                    clear hcall hgl
                    have q0 := blk_cell H_48.out 0
                    have q1 := blk_cell H_48.out 1
                    simp only [List.getElem?_toArray, List.getElem?_cons_zero, List.getElem?_cons_succ] at q0 q1
                    have ql := blk_lt H_48.out
                    go_wp2_with fail
                    clear q0 q1 ql
                    clear f0 f1 f2
                    obtain ⟨ob, hob⟩ : ∃ X, X = wr.heap.size := ⟨_, rfl⟩
                    try rw [← hob]
                    have hb : Below wr.heap.size wr (wr.alloc (.cells #[.bool false, .string O.key, .string O.val] 85)) := below_alloc (Below.refl _ _) _
                    have hN : (wr.alloc (.cells #[.bool false, .string O.key, .string O.val] 85)).heap[ob]? = some (.cells #[.bool false, .string O.key, .string O.val] 85 (0, 0)) := hob ▸ heap_alloc_new wr (.cells #[.bool false, .string O.key, .string O.val] 85)
                    clear hob
                    generalize wr.alloc (.cells #[.bool false, .string O.key, .string O.val] 85) = w12 at *
                    have Ag_50 := Lib.hid (A_46.out.below hb)
                    have Awb_51 := Lib.hid (A_47.out.below hb)
                    have Cos_52 := Lib.hid (Kd.C_below C_49.out hb)
                    have Hxb_53 := Lib.hid ((hb.block _ (blk_lt H_48.out)).trans H_48.out)
                    have B_54 := Lib.hid (below_next0 B_45.out hb)
                    clear hb
                    have Hob_55 := Lib.hid (hN)
                    clear hN
                    refine (HGT.out t_9 ad_10 c_11 w12 Awb_51.out).mono ?_
                    rintro e w13 ⟨rfl, hb⟩
                    have Ag_56 := Lib.hid (Ag_50.out.below hb)
                    have Awb_57 := Lib.hid (Awb_51.out.below hb)
                    have Cos_58 := Lib.hid (Kd.C_below Cos_52.out hb)
                    have Hxb_59 := Lib.hid ((hb.block _ (blk_lt Hxb_53.out)).trans Hxb_53.out)
                    have Hob_60 := Lib.hid ((hb.block _ (blk_lt Hob_55.out)).trans Hob_55.out)
                    have B_61 := Lib.hid (below_next0 B_54.out hb)
                    clear hb
                    simp only [entV, noEnt, Option.isSome_none]
                    have o0 := blk_cell Hob_60.out 0
                    have o1 := blk_cell Hob_60.out 1
                    have o2 := blk_cell Hob_60.out 2
                    simp only [List.getElem?_toArray, List.getElem?_cons_zero, List.getElem?_cons_succ] at o0 o1 o2
                    have ol := blk_lt Hob_60.out
                    go_wp2_with fail
                    clear o0 o1 o2 ol
                    obtain ⟨bb, hbb⟩ : ∃ X, X = w13.heap.size := ⟨_, rfl⟩
                    try rw [← hbb]
                    have Lbb := Lib.hid (show w11.heap.size ≤ bb from hbb ▸ B_61.out.size)
                    have hb : Below w13.heap.size w13 (w13.alloc (.cells #[.string ⟨#[]⟩, .string ⟨#[]⟩, .int .i64 0, .int .i64 0] 62)) := below_alloc (Below.refl _ _) _
                    have hN : (w13.alloc (.cells #[.string ⟨#[]⟩, .string ⟨#[]⟩, .int .i64 0, .int .i64 0] 62)).heap[bb]? = some (.cells #[.string ⟨#[]⟩, .string ⟨#[]⟩, .int .i64 0, .int .i64 0] 62 (0, 0)) := hbb ▸ heap_alloc_new w13 (.cells #[.string ⟨#[]⟩, .string ⟨#[]⟩, .int .i64 0, .int .i64 0] 62)
                    clear hbb
                    generalize w13.alloc (.cells #[.string ⟨#[]⟩, .string ⟨#[]⟩, .int .i64 0, .int .i64 0] 62) = w14 at *
                    have Ag_62 := Lib.hid (Ag_56.out.below hb)
                    have Awb_63 := Lib.hid (Awb_57.out.below hb)
                    have Cos_64 := Lib.hid (Kd.C_below Cos_58.out hb)
                    have Hxb_65 := Lib.hid ((hb.block _ (blk_lt Hxb_59.out)).trans Hxb_59.out)
                    have Hob_66 := Lib.hid ((hb.block _ (blk_lt Hob_60.out)).trans Hob_60.out)
                    have B_67 := Lib.hid (below_next0 B_61.out hb)
                    clear hb
                    have Hbb_68 := Lib.hid (hN)
                    clear hN
                    refine (rev_any g t_22 (⟨R1, M.rev + 1, M.low, M.hap ++ V1⟩) ad_23 c_24 w14 Ag_62.out).mono ?_
                    rintro e w15 ⟨rfl, hb⟩
                    have Ag_69 := Lib.hid (Ag_62.out.below hb)
                    have Awb_70 := Lib.hid (Awb_63.out.below hb)
                    have Cos_71 := Lib.hid (Kd.C_below Cos_64.out hb)
                    have Hxb_72 := Lib.hid ((hb.block _ (blk_lt Hxb_65.out)).trans Hxb_65.out)
                    have Hob_73 := Lib.hid ((hb.block _ (blk_lt Hob_66.out)).trans Hob_66.out)
                    have Hbb_74 := Lib.hid ((hb.block _ (blk_lt Hbb_68.out)).trans Hbb_68.out)
                    have B_75 := Lib.hid (below_next0 B_67.out hb)
                    clear hb
                    try dsimp only
                    have b0 := blk_cell Hbb_74.out 0
                    have b1 := blk_cell Hbb_74.out 1
                    have b2 := blk_cell Hbb_74.out 2
                    have b3 := blk_cell Hbb_74.out 3
                    have bf0 := blk_frozen Hbb_74.out 0
                    have bf1 := blk_frozen Hbb_74.out 1
                    have bf2 := blk_frozen Hbb_74.out 2
                    have bf3 := blk_frozen Hbb_74.out 3
                    simp only [List.getElem?_toArray, List.getElem?_cons_zero, List.getElem?_cons_succ] at b0 b1 b2 b3
                    have bl := blk_lt Hbb_74.out
                    go_wp2_with fail
                    clear b0 b1 b2 b3 bf0 bf1 bf2 bf3 bl
                    have H_76 := Lib.hid (show (w15.setCell ⟨bb, 2, none⟩ (.int .i64 (M.rev + 1))).heap[bb]? = some (.cells #[.string ⟨#[]⟩, .string ⟨#[]⟩, .int .i64 (M.rev + 1), .int .i64 0] 62 (0, 0)) from blk_put (cs := #[.string ⟨#[]⟩, .string ⟨#[]⟩, .int .i64 0, .int .i64 0]) Hbb_74.out 2 (.int .i64 (M.rev + 1)) rfl)
                    have H_77 := Lib.hid (show (w15.setCell ⟨bb, 2, none⟩ (.int .i64 (M.rev + 1))).heap[ob]? = _ from blk_far (p := ⟨bb, 2, none⟩) Hob_73.out (far_type Hbb_74.out Hob_73.out (by decide)) (.int .i64 (M.rev + 1)))
                    have B_78 := Lib.hid (show Below w11.heap.size w11 (w15.setCell ⟨bb, 2, none⟩ (.int .i64 (M.rev + 1))) from B_75.out.setCell (p := ⟨bb, 2, none⟩) Lbb.out (.int .i64 (M.rev + 1)))
                    generalize (w15.setCell ⟨bb, 2, none⟩ (.int .i64 (M.rev + 1))) = wz at *
                    have B_79 := Lib.hid (B_78.out)
                    have A_80 := Lib.hid (Ag_41.out.below B_79.out)
                    have A_81 := Lib.hid (Awb_42.out.below B_79.out)
                    have H_82 := Lib.hid ((B_79.out.block _ (blk_lt Hxb_43.out)).trans Hxb_43.out)
                    have C_83 := Lib.hid (Kd.C_below GO0.out B_79.out)
                    refine wp_region_noPanic ?_
                    refine wp_region_held_drew (S := fun W => W.cell? ⟨ob, 0, none⟩ = some (.bool false) ∧ W.cell? ⟨ob, 1, none⟩ = some (.string O.key) ∧ W.cell? ⟨ob, 2, none⟩ = some (.string O.val) ∧ W.cell? ⟨bb, 0, none⟩ = some (.string ⟨#[]⟩) ∧ W.cell? ⟨bb, 1, none⟩ = some (.string ⟨#[]⟩) ∧ W.cell? ⟨bb, 2, none⟩ = some (.int .i64 (M.rev + 1)) ∧ W.cell? ⟨bb, 3, none⟩ = some (.int .i64 0)) (by kernel_rfl) (⟨(blk_cell (show wz.drew.heap[ob]? = _ from H_77.out) 0).trans rfl, (blk_cell (show wz.drew.heap[ob]? = _ from H_77.out) 1).trans rfl, (blk_cell (show wz.drew.heap[ob]? = _ from H_77.out) 2).trans rfl, (blk_cell (show wz.drew.heap[bb]? = _ from H_76.out) 0).trans rfl, (blk_cell (show wz.drew.heap[bb]? = _ from H_76.out) 1).trans rfl, (blk_cell (show wz.drew.heap[bb]? = _ from H_76.out) 2).trans rfl, (blk_cell (show wz.drew.heap[bb]? = _ from H_76.out) 3).trans rfl⟩) (fun hHeld => ?_)
                    have hbd0 := Lib.hid ((Below.refl wz.heap.size wz).drew)
                    have HGK := Lib.hid (show getL O.key R1 = some ⟨O.key, O.val, M.rev + 1, M.rev + 1⟩ from by rw [HSO.out, HDL.out]; simp [madeOf, HGL.out])
                    refine wTake 0 ?_
                    refine wTake 1 ?_
                    refine wTake 2 ?_
                    refine wTake 3 ?_
                    refine wTake 4 ?_
                    refine wTake 5 ?_
                    refine wTake 6 ?_
                    refine wTake 7 ?_
                    try simp only [Act.put, List.setIfInBounds_toArray, List.set_cons_zero, List.set_cons_succ]
                    refine wpAnyH_ready (rs := [8]) (by kernel_rfl) (by simp) (AllReadyH.cons rfl (fun K hK => ?_) AllReadyH.nil)
                    go_simp
                    refine (rev_any g t_22 (⟨R1, M.rev + 1, M.low, M.hap ++ V1⟩) ad_23 c_24 wz.drew (A_80.out.below hbd0.out)).mono ?_
                    rintro e w16 ⟨rfl, hb⟩
                    have hbd1 := Lib.hid (below_next0 hbd0.out hb)
                    clear hb
                    go_wp2_with fail
                    refine hK.out _ _ ⟨(blk_cell ((hbd1.out.block _ (blk_lt H_77.out)).trans H_77.out) 0).trans rfl, (blk_cell ((hbd1.out.block _ (blk_lt H_77.out)).trans H_77.out) 1).trans rfl, (blk_cell ((hbd1.out.block _ (blk_lt H_77.out)).trans H_77.out) 2).trans rfl, (blk_cell ((hbd1.out.block _ (blk_lt H_76.out)).trans H_76.out) 0).trans rfl, (blk_cell ((hbd1.out.block _ (blk_lt H_76.out)).trans H_76.out) 1).trans rfl, (blk_cell ((hbd1.out.block _ (blk_lt H_76.out)).trans H_76.out) 2).trans rfl, (blk_cell ((hbd1.out.block _ (blk_lt H_76.out)).trans H_76.out) 3).trans rfl⟩ (fun hHeld => ?_)
                    clear hK K
                    try simp only [Act.put, List.setIfInBounds_toArray, List.set_cons_zero, List.set_cons_succ]
                    refine wpAnyH_ready (rs := [9]) (by kernel_rfl) (by simp) (AllReadyH.cons rfl (fun K hK => ?_) AllReadyH.nil)
                    go_simp
                    refine (has_any g t_22 (⟨R1, M.rev + 1, M.low, M.hap ++ V1⟩) ad_23 c_24 w16 (A_80.out.below hbd1.out) O.key O.val (M.rev + 1) (M.rev + 1) HGK.out).mono ?_
                    rintro e w17 ⟨rfl, hb⟩
                    have hbd2 := Lib.hid (below_next0 hbd1.out hb)
                    clear hb
                    go_wp2_with fail
                    refine hK.out _ _ ⟨(blk_cell ((hbd2.out.block _ (blk_lt H_77.out)).trans H_77.out) 0).trans rfl, (blk_cell ((hbd2.out.block _ (blk_lt H_77.out)).trans H_77.out) 1).trans rfl, (blk_cell ((hbd2.out.block _ (blk_lt H_77.out)).trans H_77.out) 2).trans rfl, (blk_cell ((hbd2.out.block _ (blk_lt H_76.out)).trans H_76.out) 0).trans rfl, (blk_cell ((hbd2.out.block _ (blk_lt H_76.out)).trans H_76.out) 1).trans rfl, (blk_cell ((hbd2.out.block _ (blk_lt H_76.out)).trans H_76.out) 2).trans rfl, (blk_cell ((hbd2.out.block _ (blk_lt H_76.out)).trans H_76.out) 3).trans rfl⟩ (fun hHeld => ?_)
                    clear hK K
                    try simp only [Act.put, List.setIfInBounds_toArray, List.set_cons_zero, List.set_cons_succ]
                    refine wTake 10 ?_
                    try simp only [Act.put, List.setIfInBounds_toArray, List.set_cons_zero, List.set_cons_succ]
                    refine wpAnyH_done (by kernel_rfl) ?_ _
                    refine NoPanic.normal ?_
                    clear hHeld
                    go_wp2
                    go_roundw
                    case rel => exact ⟨k + 1, by omega, by go_num, by rw [HCT.out]; unfold cntO; rw [HDL.out, HGL.out]; simp, Lib.hid (below_next0 B_79.out hbd2.out)⟩
                    case measure => simp [intOf] <;> omega
                  | some z =>
                    have HGL := Lib.hid hgl
                    have hcall := fun t ad c W hW => treeGet_any wb t M ad c W hW O.key
                    rw [show getD O.key M.row = z from by unfold getD; rw [hgl]; rfl, hgl] at hcall
                    have HGT := Lib.hid hcall
                    clear hcall hgl
                    have q0 := blk_cell H_48.out 0
                    have q1 := blk_cell H_48.out 1
                    simp only [List.getElem?_toArray, List.getElem?_cons_zero, List.getElem?_cons_succ] at q0 q1
                    have ql := blk_lt H_48.out
                    go_wp2_with fail
                    clear q0 q1 ql
                    clear f0 f1 f2
                    obtain ⟨ob, hob⟩ : ∃ X, X = wr.heap.size := ⟨_, rfl⟩
                    try rw [← hob]
                    have hb : Below wr.heap.size wr (wr.alloc (.cells #[.bool false, .string O.key, .string O.val] 85)) := below_alloc (Below.refl _ _) _
                    have hN : (wr.alloc (.cells #[.bool false, .string O.key, .string O.val] 85)).heap[ob]? = some (.cells #[.bool false, .string O.key, .string O.val] 85 (0, 0)) := hob ▸ heap_alloc_new wr (.cells #[.bool false, .string O.key, .string O.val] 85)
                    clear hob
                    generalize wr.alloc (.cells #[.bool false, .string O.key, .string O.val] 85) = w12 at *
                    have Ag_50 := Lib.hid (A_46.out.below hb)
                    have Awb_51 := Lib.hid (A_47.out.below hb)
                    have Cos_52 := Lib.hid (Kd.C_below C_49.out hb)
                    have Hxb_53 := Lib.hid ((hb.block _ (blk_lt H_48.out)).trans H_48.out)
                    have B_54 := Lib.hid (below_next0 B_45.out hb)
                    clear hb
                    have Hob_55 := Lib.hid (hN)
                    clear hN
                    refine (HGT.out t_9 ad_10 c_11 w12 Awb_51.out).mono ?_
                    rintro e w13 ⟨rfl, hb⟩
                    have Ag_56 := Lib.hid (Ag_50.out.below hb)
                    have Awb_57 := Lib.hid (Awb_51.out.below hb)
                    have Cos_58 := Lib.hid (Kd.C_below Cos_52.out hb)
                    have Hxb_59 := Lib.hid ((hb.block _ (blk_lt Hxb_53.out)).trans Hxb_53.out)
                    have Hob_60 := Lib.hid ((hb.block _ (blk_lt Hob_55.out)).trans Hob_55.out)
                    have B_61 := Lib.hid (below_next0 B_54.out hb)
                    clear hb
                    simp only [entV, Option.isSome_some]
                    have o0 := blk_cell Hob_60.out 0
                    have o1 := blk_cell Hob_60.out 1
                    have o2 := blk_cell Hob_60.out 2
                    simp only [List.getElem?_toArray, List.getElem?_cons_zero, List.getElem?_cons_succ] at o0 o1 o2
                    have ol := blk_lt Hob_60.out
                    go_wp2_with fail
                    clear o0 o1 o2 ol
                    obtain ⟨bb, hbb⟩ : ∃ X, X = w13.heap.size := ⟨_, rfl⟩
                    try rw [← hbb]
                    have hb : Below w13.heap.size w13 (w13.alloc (.cells #[.string z.key, .string z.val, .int .i64 z.made, .int .i64 z.mod] 62)) := below_alloc (Below.refl _ _) _
                    have hN : (w13.alloc (.cells #[.string z.key, .string z.val, .int .i64 z.made, .int .i64 z.mod] 62)).heap[bb]? = some (.cells #[.string z.key, .string z.val, .int .i64 z.made, .int .i64 z.mod] 62 (0, 0)) := hbb ▸ heap_alloc_new w13 (.cells #[.string z.key, .string z.val, .int .i64 z.made, .int .i64 z.mod] 62)
                    clear hbb
                    generalize w13.alloc (.cells #[.string z.key, .string z.val, .int .i64 z.made, .int .i64 z.mod] 62) = w14 at *
                    have Ag_62 := Lib.hid (Ag_56.out.below hb)
                    have Awb_63 := Lib.hid (Awb_57.out.below hb)
                    have Cos_64 := Lib.hid (Kd.C_below Cos_58.out hb)
                    have Hxb_65 := Lib.hid ((hb.block _ (blk_lt Hxb_59.out)).trans Hxb_59.out)
                    have Hob_66 := Lib.hid ((hb.block _ (blk_lt Hob_60.out)).trans Hob_60.out)
                    have B_67 := Lib.hid (below_next0 B_61.out hb)
                    clear hb
                    have Hbb_68 := Lib.hid (hN)
                    clear hN
                    refine wp_region_noPanic ?_
                    refine wp_region_held_drew (S := fun W => W.cell? ⟨ob, 0, none⟩ = some (.bool false) ∧ W.cell? ⟨ob, 1, none⟩ = some (.string O.key) ∧ W.cell? ⟨ob, 2, none⟩ = some (.string O.val) ∧ W.cell? ⟨bb, 0, none⟩ = some (.string z.key) ∧ W.cell? ⟨bb, 1, none⟩ = some (.string z.val) ∧ W.cell? ⟨bb, 2, none⟩ = some (.int .i64 z.made) ∧ W.cell? ⟨bb, 3, none⟩ = some (.int .i64 z.mod)) (by kernel_rfl) (⟨(blk_cell (show w14.drew.heap[ob]? = _ from Hob_66.out) 0).trans rfl, (blk_cell (show w14.drew.heap[ob]? = _ from Hob_66.out) 1).trans rfl, (blk_cell (show w14.drew.heap[ob]? = _ from Hob_66.out) 2).trans rfl, (blk_cell (show w14.drew.heap[bb]? = _ from Hbb_68.out) 0).trans rfl, (blk_cell (show w14.drew.heap[bb]? = _ from Hbb_68.out) 1).trans rfl, (blk_cell (show w14.drew.heap[bb]? = _ from Hbb_68.out) 2).trans rfl, (blk_cell (show w14.drew.heap[bb]? = _ from Hbb_68.out) 3).trans rfl⟩) (fun hHeld => ?_)
                    have hbd0 := Lib.hid ((Below.refl w14.heap.size w14).drew)
                    have HGK := Lib.hid (show getL O.key R1 = some ⟨O.key, O.val, z.made, M.rev + 1⟩ from by rw [HSO.out, HDL.out]; simp [madeOf, HGL.out])
                    refine wTake 0 ?_
                    refine wTake 1 ?_
                    refine wTake 2 ?_
                    refine wTake 3 ?_
                    refine wTake 4 ?_
                    refine wTake 5 ?_
                    refine wTake 6 ?_
                    refine wTake 7 ?_
                    try simp only [Act.put, List.setIfInBounds_toArray, List.set_cons_zero, List.set_cons_succ]
                    refine wpAnyH_ready (rs := [8]) (by kernel_rfl) (by simp) (AllReadyH.cons rfl (fun K hK => ?_) AllReadyH.nil)
                    go_simp
                    refine (rev_any g t_22 (⟨R1, M.rev + 1, M.low, M.hap ++ V1⟩) ad_23 c_24 w14.drew (Ag_62.out.below hbd0.out)).mono ?_
                    rintro e w15 ⟨rfl, hb⟩
                    have hbd1 := Lib.hid (below_next0 hbd0.out hb)
                    clear hb
                    go_wp2_with fail
                    refine hK.out _ _ ⟨(blk_cell ((hbd1.out.block _ (blk_lt Hob_66.out)).trans Hob_66.out) 0).trans rfl, (blk_cell ((hbd1.out.block _ (blk_lt Hob_66.out)).trans Hob_66.out) 1).trans rfl, (blk_cell ((hbd1.out.block _ (blk_lt Hob_66.out)).trans Hob_66.out) 2).trans rfl, (blk_cell ((hbd1.out.block _ (blk_lt Hbb_68.out)).trans Hbb_68.out) 0).trans rfl, (blk_cell ((hbd1.out.block _ (blk_lt Hbb_68.out)).trans Hbb_68.out) 1).trans rfl, (blk_cell ((hbd1.out.block _ (blk_lt Hbb_68.out)).trans Hbb_68.out) 2).trans rfl, (blk_cell ((hbd1.out.block _ (blk_lt Hbb_68.out)).trans Hbb_68.out) 3).trans rfl⟩ (fun hHeld => ?_)
                    clear hK K
                    try simp only [Act.put, List.setIfInBounds_toArray, List.set_cons_zero, List.set_cons_succ]
                    refine wpAnyH_ready (rs := [9]) (by kernel_rfl) (by simp) (AllReadyH.cons rfl (fun K hK => ?_) AllReadyH.nil)
                    go_simp
                    refine (has_any g t_22 (⟨R1, M.rev + 1, M.low, M.hap ++ V1⟩) ad_23 c_24 w15 (Ag_62.out.below hbd1.out) O.key O.val (z.made) (M.rev + 1) HGK.out).mono ?_
                    rintro e w16 ⟨rfl, hb⟩
                    have hbd2 := Lib.hid (below_next0 hbd1.out hb)
                    clear hb
                    go_wp2_with fail
                    refine hK.out _ _ ⟨(blk_cell ((hbd2.out.block _ (blk_lt Hob_66.out)).trans Hob_66.out) 0).trans rfl, (blk_cell ((hbd2.out.block _ (blk_lt Hob_66.out)).trans Hob_66.out) 1).trans rfl, (blk_cell ((hbd2.out.block _ (blk_lt Hob_66.out)).trans Hob_66.out) 2).trans rfl, (blk_cell ((hbd2.out.block _ (blk_lt Hbb_68.out)).trans Hbb_68.out) 0).trans rfl, (blk_cell ((hbd2.out.block _ (blk_lt Hbb_68.out)).trans Hbb_68.out) 1).trans rfl, (blk_cell ((hbd2.out.block _ (blk_lt Hbb_68.out)).trans Hbb_68.out) 2).trans rfl, (blk_cell ((hbd2.out.block _ (blk_lt Hbb_68.out)).trans Hbb_68.out) 3).trans rfl⟩ (fun hHeld => ?_)
                    clear hK K
                    try simp only [Act.put, List.setIfInBounds_toArray, List.set_cons_zero, List.set_cons_succ]
                    refine wTake 10 ?_
                    try simp only [Act.put, List.setIfInBounds_toArray, List.set_cons_zero, List.set_cons_succ]
                    refine wpAnyH_done (by kernel_rfl) ?_ _
                    refine NoPanic.normal ?_
                    clear hHeld
                    go_wp2
                    go_roundw
                    case rel => exact ⟨k + 1, by omega, by go_num, by rw [HCT.out]; unfold cntO; rw [HDL.out, HGL.out]; simp, Lib.hid (below_next0 B_67.out hbd2.out)⟩
                    case measure => simp [intOf] <;> omega
                · rw [hdl] at f0
                  have HDL := Lib.hid hdl
                  clear hdl
                  cases hgl : getL O.key M.row with
                  | none =>
                    have HGL := Lib.hid hgl
                    have hcall := fun t ad c W hW => treeGet_any wb t M ad c W hW O.key
                    rw [show getD O.key M.row = noEnt from by unfold getD; rw [hgl]; rfl, hgl] at hcall
                    have HGT := Lib.hid hcall
                    clear hcall hgl
                    have q0 := blk_cell H_48.out 0
                    have q1 := blk_cell H_48.out 1
                    simp only [List.getElem?_toArray, List.getElem?_cons_zero, List.getElem?_cons_succ] at q0 q1
                    have ql := blk_lt H_48.out
                    go_wp2_with fail
                    clear q0 q1 ql
                    clear f0 f1 f2
                    obtain ⟨ob, hob⟩ : ∃ X, X = wr.heap.size := ⟨_, rfl⟩
                    try rw [← hob]
                    have hb : Below wr.heap.size wr (wr.alloc (.cells #[.bool true, .string O.key, .string O.val] 85)) := below_alloc (Below.refl _ _) _
                    have hN : (wr.alloc (.cells #[.bool true, .string O.key, .string O.val] 85)).heap[ob]? = some (.cells #[.bool true, .string O.key, .string O.val] 85 (0, 0)) := hob ▸ heap_alloc_new wr (.cells #[.bool true, .string O.key, .string O.val] 85)
                    clear hob
                    generalize wr.alloc (.cells #[.bool true, .string O.key, .string O.val] 85) = w12 at *
                    have Ag_50 := Lib.hid (A_46.out.below hb)
                    have Awb_51 := Lib.hid (A_47.out.below hb)
                    have Cos_52 := Lib.hid (Kd.C_below C_49.out hb)
                    have Hxb_53 := Lib.hid ((hb.block _ (blk_lt H_48.out)).trans H_48.out)
                    have B_54 := Lib.hid (below_next0 B_45.out hb)
                    clear hb
                    have Hob_55 := Lib.hid (hN)
                    clear hN
                    refine (HGT.out t_9 ad_10 c_11 w12 Awb_51.out).mono ?_
                    rintro e w13 ⟨rfl, hb⟩
                    have Ag_56 := Lib.hid (Ag_50.out.below hb)
                    have Awb_57 := Lib.hid (Awb_51.out.below hb)
                    have Cos_58 := Lib.hid (Kd.C_below Cos_52.out hb)
                    have Hxb_59 := Lib.hid ((hb.block _ (blk_lt Hxb_53.out)).trans Hxb_53.out)
                    have Hob_60 := Lib.hid ((hb.block _ (blk_lt Hob_55.out)).trans Hob_55.out)
                    have B_61 := Lib.hid (below_next0 B_54.out hb)
                    clear hb
                    simp only [entV, noEnt, Option.isSome_none]
                    have o0 := blk_cell Hob_60.out 0
                    have o1 := blk_cell Hob_60.out 1
                    have o2 := blk_cell Hob_60.out 2
                    simp only [List.getElem?_toArray, List.getElem?_cons_zero, List.getElem?_cons_succ] at o0 o1 o2
                    have ol := blk_lt Hob_60.out
                    go_wp2_with fail
                    clear o0 o1 o2 ol
                    obtain ⟨bb, hbb⟩ : ∃ X, X = w13.heap.size := ⟨_, rfl⟩
                    try rw [← hbb]
                    have hb : Below w13.heap.size w13 (w13.alloc (.cells #[.string ⟨#[]⟩, .string ⟨#[]⟩, .int .i64 0, .int .i64 0] 62)) := below_alloc (Below.refl _ _) _
                    have hN : (w13.alloc (.cells #[.string ⟨#[]⟩, .string ⟨#[]⟩, .int .i64 0, .int .i64 0] 62)).heap[bb]? = some (.cells #[.string ⟨#[]⟩, .string ⟨#[]⟩, .int .i64 0, .int .i64 0] 62 (0, 0)) := hbb ▸ heap_alloc_new w13 (.cells #[.string ⟨#[]⟩, .string ⟨#[]⟩, .int .i64 0, .int .i64 0] 62)
                    clear hbb
                    generalize w13.alloc (.cells #[.string ⟨#[]⟩, .string ⟨#[]⟩, .int .i64 0, .int .i64 0] 62) = w14 at *
                    have Ag_62 := Lib.hid (Ag_56.out.below hb)
                    have Awb_63 := Lib.hid (Awb_57.out.below hb)
                    have Cos_64 := Lib.hid (Kd.C_below Cos_58.out hb)
                    have Hxb_65 := Lib.hid ((hb.block _ (blk_lt Hxb_59.out)).trans Hxb_59.out)
                    have Hob_66 := Lib.hid ((hb.block _ (blk_lt Hob_60.out)).trans Hob_60.out)
                    have B_67 := Lib.hid (below_next0 B_61.out hb)
                    clear hb
                    have Hbb_68 := Lib.hid (hN)
                    clear hN
                    have hcall := treeGet_any g t_22 (⟨R1, M.rev + 1, M.low, M.hap ++ V1⟩) ad_23 c_24 w14 Ag_62.out O.key
                    rw [show getL O.key R1 = none from by rw [HSO.out, HDL.out]; rfl] at hcall
                    refine hcall.mono ?_
                    clear hcall
                    rintro e w15 ⟨rfl, hb⟩
                    have Ag_69 := Lib.hid (Ag_62.out.below hb)
                    have Awb_70 := Lib.hid (Awb_63.out.below hb)
                    have Cos_71 := Lib.hid (Kd.C_below Cos_64.out hb)
                    have Hxb_72 := Lib.hid ((hb.block _ (blk_lt Hxb_65.out)).trans Hxb_65.out)
                    have Hob_73 := Lib.hid ((hb.block _ (blk_lt Hob_66.out)).trans Hob_66.out)
                    have Hbb_74 := Lib.hid ((hb.block _ (blk_lt Hbb_68.out)).trans Hbb_68.out)
                    have B_75 := Lib.hid (below_next0 B_67.out hb)
                    clear hb
                    generalize getD O.key R1 = zz
                    simp only [entV, Option.isSome_none]
                    go_wp2
                    go_roundw
                    case rel => exact ⟨k + 1, by omega, by go_num, by rw [HCT.out]; unfold cntO; rw [HDL.out, HGL.out]; simp <;> omega, Lib.hid (below_next0 B_75.out (below_alloc (Below.refl _ _) _))⟩
                    case measure => simp [intOf] <;> omega
                  | some z =>
                    have HGL := Lib.hid hgl
                    have hcall := fun t ad c W hW => treeGet_any wb t M ad c W hW O.key
                    rw [show getD O.key M.row = z from by unfold getD; rw [hgl]; rfl, hgl] at hcall
                    have HGT := Lib.hid hcall
                    clear hcall hgl
                    have q0 := blk_cell H_48.out 0
                    have q1 := blk_cell H_48.out 1
                    simp only [List.getElem?_toArray, List.getElem?_cons_zero, List.getElem?_cons_succ] at q0 q1
                    have ql := blk_lt H_48.out
                    go_wp2_with fail
                    clear q0 q1 ql
                    clear f0 f1 f2
                    obtain ⟨ob, hob⟩ : ∃ X, X = wr.heap.size := ⟨_, rfl⟩
                    try rw [← hob]
                    have hb : Below wr.heap.size wr (wr.alloc (.cells #[.bool true, .string O.key, .string O.val] 85)) := below_alloc (Below.refl _ _) _
                    have hN : (wr.alloc (.cells #[.bool true, .string O.key, .string O.val] 85)).heap[ob]? = some (.cells #[.bool true, .string O.key, .string O.val] 85 (0, 0)) := hob ▸ heap_alloc_new wr (.cells #[.bool true, .string O.key, .string O.val] 85)
                    clear hob
                    generalize wr.alloc (.cells #[.bool true, .string O.key, .string O.val] 85) = w12 at *
                    have Ag_50 := Lib.hid (A_46.out.below hb)
                    have Awb_51 := Lib.hid (A_47.out.below hb)
                    have Cos_52 := Lib.hid (Kd.C_below C_49.out hb)
                    have Hxb_53 := Lib.hid ((hb.block _ (blk_lt H_48.out)).trans H_48.out)
                    have B_54 := Lib.hid (below_next0 B_45.out hb)
                    clear hb
                    have Hob_55 := Lib.hid (hN)
                    clear hN
                    refine (HGT.out t_9 ad_10 c_11 w12 Awb_51.out).mono ?_
                    rintro e w13 ⟨rfl, hb⟩
                    have Ag_56 := Lib.hid (Ag_50.out.below hb)
                    have Awb_57 := Lib.hid (Awb_51.out.below hb)
                    have Cos_58 := Lib.hid (Kd.C_below Cos_52.out hb)
                    have Hxb_59 := Lib.hid ((hb.block _ (blk_lt Hxb_53.out)).trans Hxb_53.out)
                    have Hob_60 := Lib.hid ((hb.block _ (blk_lt Hob_55.out)).trans Hob_55.out)
                    have B_61 := Lib.hid (below_next0 B_54.out hb)
                    clear hb
                    simp only [entV, Option.isSome_some]
                    have o0 := blk_cell Hob_60.out 0
                    have o1 := blk_cell Hob_60.out 1
                    have o2 := blk_cell Hob_60.out 2
                    simp only [List.getElem?_toArray, List.getElem?_cons_zero, List.getElem?_cons_succ] at o0 o1 o2
                    have ol := blk_lt Hob_60.out
                    go_wp2_with fail
                    clear o0 o1 o2 ol
                    obtain ⟨bb, hbb⟩ : ∃ X, X = w13.heap.size := ⟨_, rfl⟩
                    try rw [← hbb]
                    have hb : Below w13.heap.size w13 (w13.alloc (.cells #[.string z.key, .string z.val, .int .i64 z.made, .int .i64 z.mod] 62)) := below_alloc (Below.refl _ _) _
                    have hN : (w13.alloc (.cells #[.string z.key, .string z.val, .int .i64 z.made, .int .i64 z.mod] 62)).heap[bb]? = some (.cells #[.string z.key, .string z.val, .int .i64 z.made, .int .i64 z.mod] 62 (0, 0)) := hbb ▸ heap_alloc_new w13 (.cells #[.string z.key, .string z.val, .int .i64 z.made, .int .i64 z.mod] 62)
                    clear hbb
                    generalize w13.alloc (.cells #[.string z.key, .string z.val, .int .i64 z.made, .int .i64 z.mod] 62) = w14 at *
                    have Ag_62 := Lib.hid (Ag_56.out.below hb)
                    have Awb_63 := Lib.hid (Awb_57.out.below hb)
                    have Cos_64 := Lib.hid (Kd.C_below Cos_58.out hb)
                    have Hxb_65 := Lib.hid ((hb.block _ (blk_lt Hxb_59.out)).trans Hxb_59.out)
                    have Hob_66 := Lib.hid ((hb.block _ (blk_lt Hob_60.out)).trans Hob_60.out)
                    have B_67 := Lib.hid (below_next0 B_61.out hb)
                    clear hb
                    have Hbb_68 := Lib.hid (hN)
                    clear hN
                    have hcall := treeGet_any g t_22 (⟨R1, M.rev + 1, M.low, M.hap ++ V1⟩) ad_23 c_24 w14 Ag_62.out O.key
                    rw [show getL O.key R1 = none from by rw [HSO.out, HDL.out]; rfl] at hcall
                    refine hcall.mono ?_
                    clear hcall
                    rintro e w15 ⟨rfl, hb⟩
                    have Ag_69 := Lib.hid (Ag_62.out.below hb)
                    have Awb_70 := Lib.hid (Awb_63.out.below hb)
                    have Cos_71 := Lib.hid (Kd.C_below Cos_64.out hb)
                    have Hxb_72 := Lib.hid ((hb.block _ (blk_lt Hxb_65.out)).trans Hxb_65.out)
                    have Hob_73 := Lib.hid ((hb.block _ (blk_lt Hob_66.out)).trans Hob_66.out)
                    have Hbb_74 := Lib.hid ((hb.block _ (blk_lt Hbb_68.out)).trans Hbb_68.out)
                    have B_75 := Lib.hid (below_next0 B_67.out hb)
                    clear hb
                    generalize getD O.key R1 = zz
                    simp only [entV, Option.isSome_none]
                    go_wp2
                    go_roundw
                    case rel => exact ⟨k + 1, by omega, by go_num, by rw [HCT.out]; unfold cntO; rw [HDL.out, HGL.out]; simp <;> omega, Lib.hid (below_next0 B_75.out (below_alloc (Below.refl _ _) _))⟩
                    case measure => simp [intOf] <;> omega
              · obtain rfl : k = OS.length := by omega
                rw [List.take_length, ← HLR.out]
                obtain ⟨wq, rfl⟩ : ∃ wq, wq = wr := ⟨_, rfl⟩
                clear hlt hcb
                have B_45 := Lib.hid (HB.out)
                have A_46 := Lib.hid (Ag_41.out.below B_45.out)
                have A_47 := Lib.hid (Awb_42.out.below B_45.out)
                have H_48 := Lib.hid ((B_45.out.block _ (blk_lt Hxb_43.out)).trans Hxb_43.out)
                have C_49 := Lib.hid (Kd.C_below GO0.out B_45.out)
                have B_50 := Lib.hid (below_next0 B_44.out HB.out)
                have q0 := blk_cell H_48.out 0
                have q1 := blk_cell H_48.out 1
                simp only [List.getElem?_toArray, List.getElem?_cons_zero, List.getElem?_cons_succ] at q0 q1
                have ql := blk_lt H_48.out
                go_wp2_with fail
                clear q0 q1 ql
                refine (list_any wb t_9 (M) ad_10 c_11 wq A_47.out ⟨#[]⟩ hb2M.1.1).mono ?_
                rintro e w12 ⟨V, rfl, hR, hb⟩
                rw [listL_nil] at hR
                try dsimp only at hR
                obtain ⟨rA, rc, rfl, rl, hC⟩ := Kd.R_reads hR
                have Ag_51 := Lib.hid (A_46.out.below hb)
                have Awb_52 := Lib.hid (A_47.out.below hb)
                have Cos_53 := Lib.hid (Kd.C_below C_49.out hb)
                have Hxb_54 := Lib.hid ((hb.block _ (blk_lt H_48.out)).trans H_48.out)
                have B_55 := Lib.hid (below_next0 B_50.out hb)
                have Cr_56 := Lib.hid (hC)
                clear hR hC hb
                obtain ⟨n0, hn0⟩ : ∃ n0, M.row.length = n0 := ⟨_, rfl⟩
                have HN0 := Lib.hid hn0
                rw [hn0] at hnb ⊢
                clear hn0
                go_wp2_with fail
                go_loopw [18] (fun i wr => ∃ k : Nat, k ≤ n0 ∧ i = .int .i64 k ∧ Hid (Below w12.heap.size w12 wr)) (fun i _ => n0 - (intOf i).toNat)
                case atStart => exact ⟨0, by omega, rfl, Lib.hid (Below.refl _ _)⟩
                case round =>
                  obtain ⟨k, hk, rfl, HB⟩ := hrel
                  by_cases hlt : k < n0
                  · obtain ⟨wp, rfl⟩ : ∃ wp, wp = wr := ⟨_, rfl⟩
                    have hlk : k < M.row.length := by (rw [HN0.out]; exact hlt)
                    have i0 : (0 : Int) ≤ (k : Int) := by omega
                    have i1 : (k : Int) < (n0 : Int) := by omega
                    have hget := srt_get HGr.out.ok.srt (List.getElem_mem hlk)
                    obtain ⟨Y, hY⟩ : ∃ Y, M.row[k] = Y := ⟨_, rfl⟩
                    rw [hY] at hget
                    have HYL := Lib.hid hY
                    have HGY := Lib.hid hget
                    clear hY hget
                    go_wp2_with fail
                    go_loopw [19, 20] (fun nv i wr => ∃ j : Nat, j ≤ OS.length ∧ i = .int .i64 j ∧ nv = .bool (anyK (OS.take j) Y.key) ∧ Hid (Below wp.heap.size wp wr)) (fun _ i _ => OS.length - (intOf i).toNat)
                    case atStart => exact ⟨0, by omega, rfl, rfl, Lib.hid (Below.refl _ _)⟩
                    case round =>
                      obtain ⟨j, hj, rfl, rfl, HB2⟩ := hrel
                      have HBx := Lib.hid (HB.out.trans (HB2.out.mono HB.out.size))
                      have HX6 := Lib.hid ((HBx.out.block _ (blk_lt Hxb_54.out)).trans Hxb_54.out)
                      have C6 := Lib.hid (Kd.C_below Cos_53.out HBx.out)
                      have R6 := Lib.hid (Kd.C_below Cr_56.out HBx.out)
                      have q0 := blk_cell HX6.out 0
                      have q1 := blk_cell HX6.out 1
                      simp only [List.getElem?_toArray, List.getElem?_cons_zero, List.getElem?_cons_succ] at q0 q1
                      have ql := blk_lt HX6.out
                      by_cases hjl : j < OS.length
                      · have j0 : (0 : Int) ≤ (j : Int) := by omega
                        have j1 : (j : Int) < (OS.length : Int) := by omega
                        obtain ⟨ao, e0, f0, f1, f2⟩ := at_Opn C6.out hjl
                        cases e0
                        obtain ⟨ar, e0, g0, _, _, _⟩ := at_Ent R6.out hlk
                        cases e0
                        rw [HYL.out] at g0
                        have hat := anyK_succ hjl Y.key
                        have HAT := Lib.hid hat
                        clear hat
                        obtain ⟨KO, hKO⟩ : ∃ KO, OS[j].key = KO := ⟨_, rfl⟩
                        rw [hKO] at f1
                        have HKO := Lib.hid hKO
                        clear hKO
                        cases hb0 : (anyK (OS.take j) Y.key)
                        · have HB0 := Lib.hid hb0
                          clear hb0
                          by_cases he : KO = Y.key
                          · have k3 := beq_same he
                            clear he
                            go_wp2_with fail
                            refine wp_region_noPanic ?_
                            refine wp_region_held_drew (S := fun W => W.cell? ⟨xb, 1, none⟩ = some (.slice (some ao) OS.length c1) ∧ W.cell? ⟨(ao.add (j * 3)).block, (ao.add (j * 3)).off + 1, none⟩ = some (.string KO) ∧ W.cell? (ar.add (k * 4)) = some (.string Y.key)) (by kernel_rfl) (⟨q1, f1, g0⟩) (fun hHeld => ?_)
                            refine wTake 0 ?_
                            refine wTake 1 ?_
                            try simp only [Act.put, List.setIfInBounds_toArray, List.set_cons_zero, List.set_cons_succ]
                            refine wTake 2 ?_
                            try simp only [Act.put, List.setIfInBounds_toArray, List.set_cons_zero, List.set_cons_succ]
                            refine wTake 3 ?_
                            try simp only [Act.put, List.setIfInBounds_toArray, List.set_cons_zero, List.set_cons_succ]
                            refine wTake 4 ?_
                            try simp only [Act.put, List.setIfInBounds_toArray, List.set_cons_zero, List.set_cons_succ]
                            refine wTake 5 ?_
                            try simp only [Act.put, List.setIfInBounds_toArray, List.set_cons_zero, List.set_cons_succ]
                            refine wTake 6 ?_
                            try simp only [Act.put, List.setIfInBounds_toArray, List.set_cons_zero, List.set_cons_succ]
                            refine wTake 7 ?_
                            try simp only [Act.put, List.setIfInBounds_toArray, List.set_cons_zero, List.set_cons_succ]
                            refine wTake 8 ?_
                            try simp only [Act.put, List.setIfInBounds_toArray, List.set_cons_zero, List.set_cons_succ]
                            refine wTake 9 ?_
                            try simp only [Act.put, List.setIfInBounds_toArray, List.set_cons_zero, List.set_cons_succ]
                            refine wTake 10 ?_
                            try simp only [Act.put, List.setIfInBounds_toArray, List.set_cons_zero, List.set_cons_succ]
                            refine wTake 11 ?_
                            try simp only [Act.put, List.setIfInBounds_toArray, List.set_cons_zero, List.set_cons_succ]
                            refine wTake 12 ?_
                            try simp only [Act.put, List.setIfInBounds_toArray, List.set_cons_zero, List.set_cons_succ]
                            refine wTake 13 ?_
                            refine wTake 14 ?_
                            refine wTake 15 ?_
                            try simp only [Act.put, List.setIfInBounds_toArray, List.set_cons_zero, List.set_cons_succ]
                            refine wpAnyH_done (by kernel_rfl) ?_ _
                            refine NoPanic.normal ?_
                            clear hHeld
                            go_wp2
                            go_roundw
                            case rel => exact ⟨j + 1, by omega, by go_num, by rw [HAT.out, HB0.out]; simp only [HKO.out, k3, Bool.false_or], Lib.hid (below_drew HB2.out)⟩
                            case measure => simp [intOf] <;> omega
                          · have k3 := beq_ne he
                            clear he
                            go_wp2_with fail
                            refine wp_region_noPanic ?_
                            refine wp_region_held_drew (S := fun W => W.cell? ⟨xb, 1, none⟩ = some (.slice (some ao) OS.length c1) ∧ W.cell? ⟨(ao.add (j * 3)).block, (ao.add (j * 3)).off + 1, none⟩ = some (.string KO) ∧ W.cell? (ar.add (k * 4)) = some (.string Y.key)) (by kernel_rfl) (⟨q1, f1, g0⟩) (fun hHeld => ?_)
                            refine wTake 0 ?_
                            refine wTake 1 ?_
                            try simp only [Act.put, List.setIfInBounds_toArray, List.set_cons_zero, List.set_cons_succ]
                            refine wTake 2 ?_
                            try simp only [Act.put, List.setIfInBounds_toArray, List.set_cons_zero, List.set_cons_succ]
                            refine wTake 3 ?_
                            try simp only [Act.put, List.setIfInBounds_toArray, List.set_cons_zero, List.set_cons_succ]
                            refine wTake 4 ?_
                            try simp only [Act.put, List.setIfInBounds_toArray, List.set_cons_zero, List.set_cons_succ]
                            refine wTake 5 ?_
                            try simp only [Act.put, List.setIfInBounds_toArray, List.set_cons_zero, List.set_cons_succ]
                            refine wTake 6 ?_
                            try simp only [Act.put, List.setIfInBounds_toArray, List.set_cons_zero, List.set_cons_succ]
                            refine wTake 7 ?_
                            try simp only [Act.put, List.setIfInBounds_toArray, List.set_cons_zero, List.set_cons_succ]
                            refine wTake 8 ?_
                            try simp only [Act.put, List.setIfInBounds_toArray, List.set_cons_zero, List.set_cons_succ]
                            refine wTake 9 ?_
                            try simp only [Act.put, List.setIfInBounds_toArray, List.set_cons_zero, List.set_cons_succ]
                            refine wTake 10 ?_
                            try simp only [Act.put, List.setIfInBounds_toArray, List.set_cons_zero, List.set_cons_succ]
                            refine wTake 11 ?_
                            try simp only [Act.put, List.setIfInBounds_toArray, List.set_cons_zero, List.set_cons_succ]
                            refine wTake 12 ?_
                            try simp only [Act.put, List.setIfInBounds_toArray, List.set_cons_zero, List.set_cons_succ]
                            refine wTake 13 ?_
                            refine wTake 14 ?_
                            refine wTake 15 ?_
                            try simp only [Act.put, List.setIfInBounds_toArray, List.set_cons_zero, List.set_cons_succ]
                            refine wpAnyH_done (by kernel_rfl) ?_ _
                            refine NoPanic.normal ?_
                            clear hHeld
                            go_wp2
                            go_roundw
                            case rel => exact ⟨j + 1, by omega, by go_num, by rw [HAT.out, HB0.out]; simp only [HKO.out, k3, Bool.false_or], Lib.hid (below_drew HB2.out)⟩
                            case measure => simp [intOf] <;> omega
                        · have HB0 := Lib.hid hb0
                          clear hb0
                          go_wp2_with fail
                          refine wp_region_noPanic ?_
                          refine wp_region_held_drew (S := fun _ => True) (by kernel_rfl) (trivial) (fun hHeld => ?_)
                          refine wTake 0 ?_
                          refine wTake 1 ?_
                          try simp only [Act.put, List.setIfInBounds_toArray, List.set_cons_zero, List.set_cons_succ]
                          refine wSkip 2 ?_
                          try simp only [Act.put, List.setIfInBounds_toArray, List.set_cons_zero, List.set_cons_succ]
                          refine wSkip 3 ?_
                          try simp only [Act.put, List.setIfInBounds_toArray, List.set_cons_zero, List.set_cons_succ]
                          refine wSkip 4 ?_
                          try simp only [Act.put, List.setIfInBounds_toArray, List.set_cons_zero, List.set_cons_succ]
                          refine wSkip 5 ?_
                          try simp only [Act.put, List.setIfInBounds_toArray, List.set_cons_zero, List.set_cons_succ]
                          refine wSkip 6 ?_
                          try simp only [Act.put, List.setIfInBounds_toArray, List.set_cons_zero, List.set_cons_succ]
                          refine wSkip 7 ?_
                          try simp only [Act.put, List.setIfInBounds_toArray, List.set_cons_zero, List.set_cons_succ]
                          refine wSkip 8 ?_
                          try simp only [Act.put, List.setIfInBounds_toArray, List.set_cons_zero, List.set_cons_succ]
                          refine wSkip 9 ?_
                          try simp only [Act.put, List.setIfInBounds_toArray, List.set_cons_zero, List.set_cons_succ]
                          refine wSkip 10 ?_
                          try simp only [Act.put, List.setIfInBounds_toArray, List.set_cons_zero, List.set_cons_succ]
                          refine wSkip 11 ?_
                          try simp only [Act.put, List.setIfInBounds_toArray, List.set_cons_zero, List.set_cons_succ]
                          refine wSkip 12 ?_
                          try simp only [Act.put, List.setIfInBounds_toArray, List.set_cons_zero, List.set_cons_succ]
                          refine wSkip 13 ?_
                          refine wTake 14 ?_
                          refine wTake 15 ?_
                          try simp only [Act.put, List.setIfInBounds_toArray, List.set_cons_zero, List.set_cons_succ]
                          refine wpAnyH_done (by kernel_rfl) ?_ _
                          refine NoPanic.normal ?_
                          clear hHeld
                          go_wp2
                          go_roundw
                          case rel => exact ⟨j + 1, by omega, by go_num, by rw [HAT.out, HB0.out]; rfl, Lib.hid (below_drew HB2.out)⟩
                          case measure => simp [intOf] <;> omega
                      · obtain rfl : j = OS.length := by omega
                        obtain ⟨wo, rfl⟩ : ∃ wo, wo = wr := ⟨_, rfl⟩
                        rw [List.take_length]
                        obtain ⟨ar, e0, g0, _, _, _⟩ := at_Ent R6.out hlk
                        cases e0
                        rw [HYL.out] at g0
                        have A_57 := Lib.hid (Ag_51.out.below HBx.out)
                        go_wp2_with fail
                        clear g0
                        clear q0 q1 ql
                        have hcall := treeGet_any g t_22 (⟨R1, M.rev + 1, M.low, M.hap ++ V1⟩) ad_23 c_24 wo A_57.out Y.key
                        cases hb0 : anyK OS Y.key
                        · have hno : ∀ o ∈ OS, Y.key ≠ o.key := fun o ho e => by (have := List.any_eq_false.1 (show (OS.any fun o => o.key.toList == Y.key.toList) = false from hb0) o ho; rw [e] at this; simp at this)
                          have hgy : getL Y.key R1 = some Y := (HOT.out Y.key hno).trans HGY.out
                          rw [show getD Y.key R1 = Y from by unfold getD; rw [hgy]; rfl, hgy] at hcall
                          have HCL := Lib.hid hcall
                          clear hcall hno hgy hb0
                          refine HCL.out.mono ?_
                          rintro e w13 ⟨rfl, hb⟩
                          have Ag_58 := Lib.hid (A_57.out.below hb)
                          have Cr_59 := Lib.hid (Kd.C_below R6.out hb)
                          have B_60 := Lib.hid (below_next0 HBx.out hb)
                          clear hb
                          simp only [entV, Option.isSome_some]
                          go_wp2_with fail
                          obtain ⟨yb, hyb⟩ : ∃ X, X = w13.heap.size := ⟨_, rfl⟩
                          try rw [← hyb]
                          have hb : Below w13.heap.size w13 (w13.alloc (.cells #[.string Y.key, .string Y.val, .int .i64 Y.made, .int .i64 Y.mod] 62)) := below_alloc (Below.refl _ _) _
                          have hN : (w13.alloc (.cells #[.string Y.key, .string Y.val, .int .i64 Y.made, .int .i64 Y.mod] 62)).heap[yb]? = some (.cells #[.string Y.key, .string Y.val, .int .i64 Y.made, .int .i64 Y.mod] 62 (0, 0)) := hyb ▸ heap_alloc_new w13 (.cells #[.string Y.key, .string Y.val, .int .i64 Y.made, .int .i64 Y.mod] 62)
                          clear hyb
                          generalize w13.alloc (.cells #[.string Y.key, .string Y.val, .int .i64 Y.made, .int .i64 Y.mod] 62) = w14 at *
                          have Ag_61 := Lib.hid (Ag_58.out.below hb)
                          have Cr_62 := Lib.hid (Kd.C_below Cr_59.out hb)
                          have B_63 := Lib.hid (below_next0 B_60.out hb)
                          clear hb
                          have Hyb_64 := Lib.hid (hN)
                          clear hN
                          obtain ⟨ar2, e0, g0, g1, g2, g3⟩ := at_Ent Cr_62.out hlk
                          cases e0
                          rw [HYL.out] at g0 g1 g2 g3
                          refine wp_region_noPanic ?_
                          refine wp_region_held_drew (S := fun W => W.cell? ⟨yb, 0, none⟩ = some (.string Y.key) ∧ W.cell? ⟨yb, 1, none⟩ = some (.string Y.val) ∧ W.cell? ⟨yb, 2, none⟩ = some (.int .i64 Y.made) ∧ W.cell? ⟨yb, 3, none⟩ = some (.int .i64 Y.mod) ∧ W.cell? (ar.add (k * 4)) = some (.string Y.key) ∧ W.cell? ⟨(ar.add (k * 4)).block, (ar.add (k * 4)).off + 1, none⟩ = some (.string Y.val) ∧ W.cell? ⟨(ar.add (k * 4)).block, (ar.add (k * 4)).off + 2, none⟩ = some (.int .i64 Y.made) ∧ W.cell? ⟨(ar.add (k * 4)).block, (ar.add (k * 4)).off + 3, none⟩ = some (.int .i64 Y.mod)) (by kernel_rfl) (⟨(blk_cell (show w14.drew.heap[yb]? = _ from Hyb_64.out) 0).trans rfl, (blk_cell (show w14.drew.heap[yb]? = _ from Hyb_64.out) 1).trans rfl, (blk_cell (show w14.drew.heap[yb]? = _ from Hyb_64.out) 2).trans rfl, (blk_cell (show w14.drew.heap[yb]? = _ from Hyb_64.out) 3).trans rfl, g0, g1, g2, g3⟩) (fun hHeld => ?_)
                          refine wTake 0 ?_
                          refine wTake 1 ?_
                          refine wTake 2 ?_
                          try simp only [Act.put, List.setIfInBounds_toArray, List.set_cons_zero, List.set_cons_succ]
                          refine wTake 3 ?_
                          try simp only [Act.put, List.setIfInBounds_toArray, List.set_cons_zero, List.set_cons_succ]
                          refine wTake 4 ?_
                          try simp only [Act.put, List.setIfInBounds_toArray, List.set_cons_zero, List.set_cons_succ]
                          refine wTake 5 ?_
                          try simp only [Act.put, List.setIfInBounds_toArray, List.set_cons_zero, List.set_cons_succ]
                          refine wTake 6 ?_
                          try simp only [Act.put, List.setIfInBounds_toArray, List.set_cons_zero, List.set_cons_succ]
                          refine wTake 7 ?_
                          try simp only [Act.put, List.setIfInBounds_toArray, List.set_cons_zero, List.set_cons_succ]
                          refine wTake 8 ?_
                          try simp only [Act.put, List.setIfInBounds_toArray, List.set_cons_zero, List.set_cons_succ]
                          refine wTake 9 ?_
                          try simp only [Act.put, List.setIfInBounds_toArray, List.set_cons_zero, List.set_cons_succ]
                          refine wTake 10 ?_
                          try simp only [Act.put, List.setIfInBounds_toArray, List.set_cons_zero, List.set_cons_succ]
                          refine wTake 11 ?_
                          try simp only [Act.put, List.setIfInBounds_toArray, List.set_cons_zero, List.set_cons_succ]
                          refine wTake 12 ?_
                          refine wTake 13 ?_
                          try simp only [Act.put, List.setIfInBounds_toArray, List.set_cons_zero, List.set_cons_succ]
                          refine wpAnyH_done (by kernel_rfl) ?_ _
                          refine NoPanic.normal ?_
                          clear hHeld
                          go_wp2
                          go_roundw
                          case rel => exact ⟨k + 1, by omega, by go_num, Lib.hid (below_drew B_63.out)⟩
                          case measure => simp [intOf] <;> omega
                        · obtain ⟨YY, hYY⟩ : ∃ YY, getD Y.key R1 = YY := ⟨_, rfl⟩
                          obtain ⟨bs, hbs⟩ : ∃ bs, (getL Y.key R1).isSome = bs := ⟨_, rfl⟩
                          rw [hYY, hbs] at hcall
                          have HCL := Lib.hid hcall
                          clear hcall hYY hbs hb0
                          refine HCL.out.mono ?_
                          rintro e w13 ⟨rfl, hb⟩
                          have Ag_58 := Lib.hid (A_57.out.below hb)
                          have Cr_59 := Lib.hid (Kd.C_below R6.out hb)
                          have B_60 := Lib.hid (below_next0 HBx.out hb)
                          clear hb
                          simp only [entV]
                          go_wp2_with fail
                          obtain ⟨yb, hyb⟩ : ∃ X, X = w13.heap.size := ⟨_, rfl⟩
                          try rw [← hyb]
                          have hb : Below w13.heap.size w13 (w13.alloc (.cells #[.string YY.key, .string YY.val, .int .i64 YY.made, .int .i64 YY.mod] 62)) := below_alloc (Below.refl _ _) _
                          have hN : (w13.alloc (.cells #[.string YY.key, .string YY.val, .int .i64 YY.made, .int .i64 YY.mod] 62)).heap[yb]? = some (.cells #[.string YY.key, .string YY.val, .int .i64 YY.made, .int .i64 YY.mod] 62 (0, 0)) := hyb ▸ heap_alloc_new w13 (.cells #[.string YY.key, .string YY.val, .int .i64 YY.made, .int .i64 YY.mod] 62)
                          clear hyb
                          generalize w13.alloc (.cells #[.string YY.key, .string YY.val, .int .i64 YY.made, .int .i64 YY.mod] 62) = w14 at *
                          have Ag_61 := Lib.hid (Ag_58.out.below hb)
                          have Cr_62 := Lib.hid (Kd.C_below Cr_59.out hb)
                          have B_63 := Lib.hid (below_next0 B_60.out hb)
                          clear hb
                          have Hyb_64 := Lib.hid (hN)
                          clear hN
                          refine wp_region_noPanic ?_
                          refine wp_region_held_drew (S := fun _ => True) (by kernel_rfl) (trivial) (fun hHeld => ?_)
                          refine wTake 0 ?_
                          refine wTake 1 ?_
                          refine wTake 2 ?_
                          try simp only [Act.put, List.setIfInBounds_toArray, List.set_cons_zero, List.set_cons_succ]
                          refine wSkip 3 ?_
                          try simp only [Act.put, List.setIfInBounds_toArray, List.set_cons_zero, List.set_cons_succ]
                          refine wSkip 4 ?_
                          try simp only [Act.put, List.setIfInBounds_toArray, List.set_cons_zero, List.set_cons_succ]
                          refine wSkip 5 ?_
                          try simp only [Act.put, List.setIfInBounds_toArray, List.set_cons_zero, List.set_cons_succ]
                          refine wSkip 6 ?_
                          try simp only [Act.put, List.setIfInBounds_toArray, List.set_cons_zero, List.set_cons_succ]
                          refine wSkip 7 ?_
                          try simp only [Act.put, List.setIfInBounds_toArray, List.set_cons_zero, List.set_cons_succ]
                          refine wSkip 8 ?_
                          try simp only [Act.put, List.setIfInBounds_toArray, List.set_cons_zero, List.set_cons_succ]
                          refine wSkip 9 ?_
                          try simp only [Act.put, List.setIfInBounds_toArray, List.set_cons_zero, List.set_cons_succ]
                          refine wSkip 10 ?_
                          try simp only [Act.put, List.setIfInBounds_toArray, List.set_cons_zero, List.set_cons_succ]
                          refine wSkip 11 ?_
                          try simp only [Act.put, List.setIfInBounds_toArray, List.set_cons_zero, List.set_cons_succ]
                          refine wSkip 12 ?_
                          refine wTake 13 ?_
                          try simp only [Act.put, List.setIfInBounds_toArray, List.set_cons_zero, List.set_cons_succ]
                          refine wpAnyH_done (by kernel_rfl) ?_ _
                          refine NoPanic.normal ?_
                          clear hHeld
                          go_wp2
                          go_roundw
                          case rel => exact ⟨k + 1, by omega, by go_num, Lib.hid (below_drew B_63.out)⟩
                          case measure => simp [intOf] <;> omega
                  · obtain rfl : k = n0 := by omega
                    clear hlt
                    have A_57 := Lib.hid (Ag_51.out.below HB.out)
                    go_wp2_with fail
                    refine (len_any g t_22 (⟨R1, M.rev + 1, M.low, M.hap ++ V1⟩) ad_23 c_24 wr A_57.out).mono ?_
                    rintro e w13 ⟨rfl, hb⟩
                    have Ag_58 := Lib.hid (A_57.out.below hb)
                    have B_59 := Lib.hid (below_next0 HB.out hb)
                    clear hb
                    go_wp2
                    go_ret
                    exact ⟨by first | rfl | (simp; done), below_next0 B_55.out B_59.out⟩
  · go_enter Try.func8, Try.ntmps8
    go_wp2_with fail
    obtain ⟨xb, hxb⟩ : ∃ X, X = w.heap.size := ⟨_, rfl⟩
    try rw [← hxb]
    have hb : Below w.heap.size w (w.alloc (.cells #[.slice A0 CS.length c0, .slice A1 OS.length c1] 34)) := below_alloc (Below.refl _ _) _
    have hN : (w.alloc (.cells #[.slice A0 CS.length c0, .slice A1 OS.length c1] 34)).heap[xb]? = some (.cells #[.slice A0 CS.length c0, .slice A1 OS.length c1] 34 (0, 0)) := hxb ▸ heap_alloc_new w (.cells #[.slice A0 CS.length c0, .slice A1 OS.length c1] 34)
    clear hxb
    generalize w.alloc (.cells #[.slice A0 CS.length c0, .slice A1 OS.length c1] 34) = w1 at *
    have B_1 := Lib.hid (below_next0 (Below.refl w.heap.size w) hb)
    clear hb
    have Hxb_2 := Lib.hid (hN)
    clear hN
    refine (HW.out _ _ _ hc (Kd.C_below HC.out B_1.out)).mono ?_
    rintro e w2 ⟨rfl, hb⟩
    have Hxb_3 := Lib.hid ((hb.block _ (blk_lt Hxb_2.out)).trans Hxb_2.out)
    have B_4 := Lib.hid (below_next0 B_1.out hb)
    clear hb
    go_wp2_with fail
    refine (treeAwake_any w2).mono ?_
    rintro e w3 ⟨rfl, hb⟩
    have Hxb_5 := Lib.hid ((hb.block _ (blk_lt Hxb_3.out)).trans Hxb_3.out)
    have B_6 := Lib.hid (below_next0 B_4.out hb)
    clear hb
    go_wp2
    go_ret
    exact ⟨rfl, B_6.out⟩
end Go.Proofs.Ytobanhbjkomieaa.TA
