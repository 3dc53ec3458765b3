import Derived.Test.YtobanhbjkomieaaOQSa
section
namespace Go.Proofs.Ytobanhbjkomieaa.OP
open Go.ChangeShapes Go.WideShapes Go.Deep Go.Proofs.YtobanhbjkomieaaW.PrintWords
set_option linter.unusedSimpArgs false
set_option linter.unusedVariables false
set_option maxRecDepth 100000 in
theorem opens_CondT (w : World) : Opens Try.prog w 73 PTr.k73 (fun x => small x.f0 ∧ wf64 x.f1) :=
  opens_iso (opens_struct (d := Kd.pair Kd.string I64) (ok := fun x => small x.1 ∧ wf64 x.2) Try.underlying73 (by kernel_rfl) (seg_cons (opens_string Try.underlying9 (by kernel_rfl)) rfl (seg_one (opens_int Try.underlying2 (by kernel_rfl)) rfl)))
    (fun x : PTr.S73 => (x.f0, x.f1)) (fun a => ⟨a.1, a.2⟩) (fun _ => rfl)
set_option maxRecDepth 100000 in
theorem opens_OpT (w : World) : Opens Try.prog w 85 PTr.k85 (fun x => True ∧ small x.f1 ∧ small x.f2) :=
  opens_iso (opens_struct (d := Kd.pair Kd.bool (Kd.pair Kd.string Kd.string)) (ok := fun x => True ∧ small x.2.1 ∧ small x.2.2) Try.underlying85 (by kernel_rfl) (seg_cons (opens_bool Try.underlying4 (by kernel_rfl)) rfl (seg_cons (opens_string Try.underlying9 (by kernel_rfl)) rfl (seg_one (opens_string Try.underlying9 (by kernel_rfl)) rfl))))
    (fun x : PTr.S85 => (x.f0, x.f1, x.f2)) (fun a => ⟨a.1, a.2.1, a.2.2⟩) (fun _ => rfl)
set_option maxRecDepth 100000 in
theorem opens_Txn (w : World) : Opens Try.prog w 34 PTr.k34 TA.okX :=
  opens_ok (opens_iso (opens_struct (d := Kd.pair (Kd.slice 73 PTr.k73) (Kd.slice 85 PTr.k85)) (ok := fun x => ((∀ y ∈ x.1, small y.f0 ∧ wf64 y.f1) ∧ x.1.length ≤ maxLen) ∧ ((∀ y ∈ x.2, True ∧ small y.f1 ∧ small y.f2) ∧ x.2.length ≤ maxLen)) Try.underlying34 (by kernel_rfl)
    (seg_cons (opens_slice (opens_CondT w) Try.underlying31 (by kernel_rfl)) rfl (seg_one (opens_slice (opens_OpT w) Try.underlying32 (by kernel_rfl)) rfl)))
    (fun x : PTr.S34 => (x.f0, x.f1)) (fun a => ⟨a.1, a.2⟩) (fun _ => rfl)) (fun x h => ⟨⟨fun c hc => (h.1.1 c hc).1, h.1.2⟩, fun o ho => (h.2.1 o ho).2.1, h.2.2⟩)
theorem opens_Txns (w : World) : Opens Try.prog w 47 (Kd.slice 34 PTr.k34) (fun l => (∀ x ∈ l, TA.okX x) ∧ l.length ≤ maxLen) :=
  opens_slice (opens_Txn w) Try.underlying47 (by kernel_rfl)
end Go.Proofs.Ytobanhbjkomieaa.OP
namespace Go.Proofs.Ytobanhbjkomieaa.TA
open Go Go.RowKit Go.Proofs.Ytobanhbjkomieaa.KP Go.Proofs.YtobanhbjkomieaaW.PrintWords Go.Proofs.YtobanhbjkomieaaW.PrintLast Go.Proofs.YtobanhbjkomieaaW.PrintMore
open Go.Proofs.Ytobanhbjkomieaa.RP (below_next0)
set_option linter.unusedSimpArgs false
set_option linter.unusedVariables false
def frE (x : Ent) : PTr.S62 := ⟨x.key, x.val, x.made, x.mod⟩
def frV (x : Evt) : PTr.S60 := ⟨x.rev, x.del, x.key, x.val⟩
theorem C_frE {w : World} {A : Option Addr} {n : Nat} {l : List Ent} (h : Kd.C kEnt w A n l) : Kd.C PTr.k62 w A n (l.map frE) := by
  unfold PTr.k62
  unfold kEnt at h
  rw [C_iso] at h ⊢
  rw [List.map_map]
  exact h
theorem C_frV {w : World} {A : Option Addr} {n : Nat} {l : List Evt} (h : Kd.C kEvt w A n l) : Kd.C PTr.k60 w A n (l.map frV) := by
  unfold PTr.k60
  unfold kEvt at h
  rw [C_iso] at h ⊢
  rw [List.map_map]
  exact h
theorem entries_l0 (l : List PTr.S62) (hl : l.length ≤ 1000000000) : ∀ (d i : Nat), i + d = l.length → Ev (fun k => PTr.batonref12_Entries.l0 k l l (i : Int)) true
  | 0, i, h => by
    refine Ev.step (f := fun _ => some true) (fun k => ?_) (Ev.now _)
    simp only [PTr.batonref12_Entries.l0]
    rw [if_neg (by omega)]
  | d + 1, i, h => by
    have hw : wrap64 ((i : Int) + 1) = ((i + 1 : Nat) : Int) := by unfold wrap64; omega
    refine Ev.step (f := fun k => PTr.batonref12_Entries.l0 k l l ((i + 1 : Nat) : Int)) (fun k => ?_) (entries_l0 l hl d (i + 1) (by omega))
    simp only [PTr.batonref12_Entries.l0]
    rw [if_pos (by omega), if_pos (by omega), if_pos (by omega), if_neg (by simp), hw]
theorem events_l0 (l : List PTr.S60) (hl : l.length ≤ 1000000000) : ∀ (d i : Nat), i + d = l.length → Ev (fun k => PTr.batonref12_Events.l0 k l l (i : Int)) true
  | 0, i, h => by
    refine Ev.step (f := fun _ => some true) (fun k => ?_) (Ev.now _)
    simp only [PTr.batonref12_Events.l0]
    rw [if_neg (by omega)]
  | d + 1, i, h => by
    have hw : wrap64 ((i : Int) + 1) = ((i + 1 : Nat) : Int) := by unfold wrap64; omega
    refine Ev.step (f := fun k => PTr.batonref12_Events.l0 k l l ((i + 1 : Nat) : Int)) (fun k => ?_) (events_l0 l hl d (i + 1) (by omega))
    simp only [PTr.batonref12_Events.l0]
    rw [if_pos (by omega), if_pos (by omega), if_pos (by omega), if_neg (by simp), hw]
theorem entries_same (l : List Ent) (A B : Option Addr) (c c2 : Nat) (w : World) (hc : l.length ≤ c) (hc2 : l.length ≤ c2) (hA : Kd.C kEnt w A l.length l) (hB : Kd.C kEnt w B l.length l) (hl : l.length ≤ 1000000000) :
    Calls Try.prog 45 #[.slice A l.length c, .slice B l.length c2] w fun e w' => e = .returned (.bool true) ∧ Below w.heap.size w w' := by
  have e0 : (l.map frE).length = l.length := List.length_map _
  have h := entries_l0 (l.map frE) (by omega) (l.map frE).length 0 (by omega)
  have hE : Ev (fun k => PTr.batonref12_Entries.f k (l.map frE) (l.map frE)) true := Ev.congr (fun k => by simp only [PTr.batonref12_Entries.f, if_true]; rfl) h
  refine ev_calls hE (fun k hk => ?_)
  have := PTr.batonref12_Entries.calls k A c (l.map frE) B c2 (l.map frE) true w (by rw [e0]; exact C_frE hA) (by rw [e0]; exact hc) (by rw [e0]; exact C_frE hB) (by rw [e0]; exact hc2) hk
  rw [e0] at this
  exact this.mono fun _ _ h => ⟨h.1, h.2.below⟩
theorem events_same (l : List Evt) (A B : Option Addr) (c c2 : Nat) (w : World) (hc : l.length ≤ c) (hc2 : l.length ≤ c2) (hA : Kd.C kEvt w A l.length l) (hB : Kd.C kEvt w B l.length l) (hl : l.length ≤ 1000000000) :
    Calls Try.prog 55 #[.slice A l.length c, .slice B l.length c2] w fun e w' => e = .returned (.bool true) ∧ Below w.heap.size w w' := by
  have e0 : (l.map frV).length = l.length := List.length_map _
  have h := events_l0 (l.map frV) (by omega) (l.map frV).length 0 (by omega)
  have hE : Ev (fun k => PTr.batonref12_Events.f k (l.map frV) (l.map frV)) true := Ev.congr (fun k => by simp only [PTr.batonref12_Events.f, if_true]; rfl) h
  refine ev_calls hE (fun k hk => ?_)
  have := PTr.batonref12_Events.calls k A c (l.map frV) B c2 (l.map frV) true w (by rw [e0]; exact C_frV hA) (by rw [e0]; exact hc) (by rw [e0]; exact C_frV hB) (by rw [e0]; exact hc2) hk
  rw [e0] at this
  exact this.mono fun _ _ h => ⟨h.1, h.2.below⟩
end Go.Proofs.Ytobanhbjkomieaa.TA
end
section
namespace Go.Proofs.Ytobanhbjkomieaa.TA
open Go Go.RowKit Go.Proofs.Ytobanhbjkomieaa.KP Go.Proofs.YtobanhbjkomieaaW.PrintWords Go.Proofs.YtobanhbjkomieaaW.PrintLast Go.Proofs.YtobanhbjkomieaaW.PrintMore
open Go.Proofs.Ytobanhbjkomieaa.RP (wTake wSkip wOne wpAnyH_cast below_next0)
set_option linter.unusedSimpArgs false
set_option linter.unusedVariables false
structure Gr (m : Md) (n : Nat) : Prop where
  ok : Ok m
  low : m.low = 0
  rev : 0 ≤ m.rev ∧ m.rev ≤ n
  row : m.row.length ≤ 8 * n
  hap : m.hap.length ≤ 8 * n
theorem gr_more {m : Md} {n : Nat} (h : Gr m n) (N : List Tx) : Gr (run may N m) (n + N.length) := by
  have h1 := run_rev may N m
  have h2 := run_le N m
  have h3 := h.rev
  have h4 := h.row
  have h5 := h.hap
  exact ⟨ok_run may N h.ok, (run_low may N m).trans h.low, by omega, by omega, by omega⟩
theorem gr_new : Gr Md.new 0 := ⟨ok_new, rfl, by simp [Md.new], by simp [Md.new], by simp [Md.new]⟩
theorem gr_run (L : List Tx) : Gr (run may L Md.new) L.length := by have := gr_more gr_new L; rwa [Nat.zero_add] at this
theorem sameM_self (m : Md) : sameM m m = true := by simp [sameM]
theorem evt_kb {W W' : World} {A : Option Addr} {l : List Evt} (h : Kd.C kEvt W A l.length l) {g : Nat} {t : AT} {m : Md} {ad : Option Addr} {c : Nat} {T : TypeId} (hg : W.heap[g]? = some (.cells (trC t m ad c) T (0, 0))) (hb : Kb g W W') : Kd.C kEvt W' A l.length l :=
  C_keep h (fun a ha hn => hb.block _ (hap_lt h a ha hn) (hap_far h hg a ha hn))
theorem since_more {m : Md} {n : Nat} (h : Gr m n) (N : List Tx) : sinceM true ⟨#[]⟩ (m.rev + 1) (run may N m) = (evsOf may N m, 0) := by
  have h1 := run_rev may N m
  have h2 := (gr_more h N).low
  have h3 := h.rev
  unfold sinceM
  rw [if_neg (by simp), if_neg (by omega), if_neg (by omega), run_since may N h.ok rfl]
theorem evs_le (N : List Tx) (m : Md) : (evsOf may N m).length ≤ (run may N m).hap.length := by rw [run_hap, List.length_append]; omega
set_option maxHeartbeats 16000000 in
set_option maxRecDepth 100000 in
theorem TreeApart_walk (A : Option Addr) (c : Nat) (l : List TxP) (A2 : Option Addr) (c2 : Nat) (l2 : List TxP) (w : World) (hc : l.length ≤ c) (hC : Kd.C PTr.k34 w A l.length l) (ok : (∀ x ∈ l, okX x) ∧ l.length ≤ maxLen)
    (hc2 : l2.length ≤ c2) (hC2 : Kd.C PTr.k34 w A2 l2.length l2) (ok2 : (∀ x ∈ l2, okX x) ∧ l2.length ≤ maxLen) :
    Calls Try.prog 7 #[.slice A l.length c, .slice A2 l2.length c2] w fun e w' => e = .returned (.bool true) ∧ Below w.heap.size w w' := by
  obtain ⟨b, hb5, hw⟩ := wide_any l ok.2 ok.1
  obtain ⟨b2, hb52, hw2⟩ := wide_any l2 ok2.2 ok2.1
  have HC := Lib.hid hC
  have HC2 := Lib.hid hC2
  have HX := Lib.hid ok.1
  have HX2 := Lib.hid ok2.1
  have HW := Lib.hid hw
  have HW2 := Lib.hid hw2
  clear hC hC2 ok ok2 hw hw2
  cases b
  · cases b2
    · have h5 := hb5 rfl
      have h52 := hb52 rfl
      clear hb5 hb52
      obtain ⟨M, hM⟩ : ∃ M, run may (l.map toX) Md.new = M := ⟨_, rfl⟩
      have HM := Lib.hid hM
      have hg := gr_run (l.map toX)
      rw [hM, List.length_map] at hg
      have HGr := Lib.hid hg
      have hw : wrap64 (M.rev + 1) = M.rev + 1 := by have := hg.rev; unfold wrap64; omega
      have hbM : M.row.length ≤ 100000000 ∧ M.hap.length ≤ 100000000 := by have h1 := hg.row; have h2 := hg.hap; omega
      have hb2M : (M.row.length ≤ 1000000000 ∧ M.row.length ≤ 1000000000) ∧ (M.hap.length ≤ 1000000000 ∧ M.hap.length ≤ 1000000000) := by omega
      clear hM hg
      go_enter Try.func7, Try.ntmps7
      go_wp2_with fail
      refine (HW.out _ _ _ hc (Kd.C_below HC.out (Below.refl w.heap.size w))).mono ?_
      rintro e w1 ⟨rfl, hb⟩
      have B_1 := Lib.hid (below_next0 (Below.refl w.heap.size w) hb)
      clear hb
      go_wp2_with fail
      refine (HW2.out _ _ _ hc2 (Kd.C_below HC2.out B_1.out)).mono ?_
      rintro e w2 ⟨rfl, hb⟩
      have B_2 := Lib.hid (below_next0 B_1.out hb)
      clear hb
      go_wp2_with fail
      refine (treeAwake_any w2).mono ?_
      rintro e w3 ⟨rfl, hb⟩
      have B_3 := Lib.hid (below_next0 B_2.out hb)
      clear hb
      go_wp2_with fail
      refine (grown_any A c l w3 hc (Kd.C_below HC.out B_3.out) HX.out h5).mono ?_
      rintro e w4 ⟨g, t_4, ad_5, c_6, rfl, hg, hA, hb⟩
      have Gg_7 := Lib.hid (Nat.le_trans B_3.out.size hg)
      have B_8 := Lib.hid (below_next0 B_3.out hb)
      rw [HM.out] at hA
      have Ag_9 := Lib.hid (hA)
      clear hg hA hb
      go_wp2_with fail
      refine (copy_any g t_4 (M) ad_5 c_6 w4 Ag_9.out).mono ?_
      rintro e w5 ⟨a, rfl, hg, hA, hb⟩
      have Ga_10 := Lib.hid (Nat.le_trans B_8.out.size hg)
      have N_11 := Lib.hid (show a ≠ g from by have := blk_lt Ag_9.out.blk; omega)
      have Ag_12 := Lib.hid (Ag_9.out.below hb)
      have B_13 := Lib.hid (below_next0 B_8.out hb)
      have Aa_14 := Lib.hid (hA)
      clear hg hA hb
      go_wp2_with fail
      refine (copy_any g t_4 (M) ad_5 c_6 w5 Ag_12.out).mono ?_
      rintro e w6 ⟨b, rfl, hg, hA, hb⟩
      have Gb_15 := Lib.hid (Nat.le_trans B_13.out.size hg)
      have N_16 := Lib.hid (show b ≠ g from by have := blk_lt Ag_12.out.blk; omega)
      have N_17 := Lib.hid (show b ≠ a from by have := blk_lt Aa_14.out.blk; omega)
      have Ag_18 := Lib.hid (Ag_12.out.below hb)
      have Aa_19 := Lib.hid (Aa_14.out.below hb)
      have B_20 := Lib.hid (below_next0 B_13.out hb)
      have Ab_21 := Lib.hid (hA)
      clear hg hA hb
      go_wp2_with fail
      go_loopw [8] (fun i wr => ∃ (k : Nat) (t : AT) (ad : Option Addr) (c' : Nat), k ≤ l2.length ∧ i = .int .i64 k ∧ Hid (At wr a t ((run may ((l2.take k).map toX) M)) ad c') ∧ Hid (At wr b t_4 (M) ad_5 c_6) ∧ Hid (At wr g t_4 (M) ad_5 c_6) ∧ Hid (Below w.heap.size w wr)) (fun i _ => l2.length - (intOf i).toNat)
      case atStart => exact ⟨0, t_4, ad_5, c_6, by omega, rfl, Lib.hid Aa_19.out, Lib.hid Ab_21.out, Lib.hid Ag_18.out, Lib.hid B_20.out⟩
      case round =>
        obtain ⟨k, ta, ada, ca, hk, rfl, HAa, HAb, HAg, HB⟩ := hrel
        by_cases hlt : k < l2.length
        · have i0 : (0 : Int) ≤ (k : Int) := by omega
          have i1 : (k : Int) < (l2.length : Int) := by omega
          have hbd : (run may ((l2.take k).map toX) M).row.length ≤ 100000000 ∧ (run may ((l2.take k).map toX) M).hap.length ≤ 100000000 := run_bd l2 k h52 M ⟨by have := HGr.out.row; omega, by have := HGr.out.hap; omega⟩
          have HR := Lib.hid (run_take hlt M)
          obtain ⟨abq_22, A0q_22, c0q_22, A9q_22, c9q_22, e0, f0, f1, l0, g0, l1, g1⟩ := at_Tx (Kd.C_below HC2.out HB.out) hlt
          cases e0
          have ho := okT_of (HX2.out l2[k] (List.getElem_mem hlt))
          have hcall := do_any a ta ((run may ((l2.take k).map toX) M)) ada ca wr HAa.out A0q_22 c0q_22 (toX l2[k]).cs A9q_22 c9q_22 (toX l2[k]).os l0 g0 l1 g1 ho hbd.1 hbd.2
          have HCLq_22 := Lib.hid hcall
          clear hcall g0 g1 ho l0 l1
          generalize (toX l2[k]).cs.length = n0q_22 at *
          generalize (toX l2[k]).os.length = n1q_22 at *
          go_wp2_with fail
          clear f0 f1
          refine HCLq_22.out.mono ?_
          rintro e w7 ⟨V, t_23, ad_24, c_25, rfl, _, hA, hK⟩
          have Ag_26 := Lib.hid (HAg.out.kb HAa.out.blk N_11.out.symm hK)
          have Ab_27 := Lib.hid (HAb.out.kb HAa.out.blk N_17.out hK)
          have B_28 := Lib.hid (Kb.below HB.out hK Ga_10.out HB.out.size)
          rw [← HR.out] at hA
          have Aa_29 := Lib.hid (hA)
          clear hA hK
          go_wp2_with fail
          have hcall := same_any b t_4 (M) ad_5 c_6 g t_4 (M) ad_5 c_6 w7 Ab_27.out Ag_26.out hb2M.1 hb2M.2
          rw [sameM_self] at hcall
          refine hcall.mono ?_
          clear hcall
          rintro e w8 ⟨rfl, hb⟩
          have Ag_30 := Lib.hid (Ag_26.out.below hb)
          have Aa_31 := Lib.hid (Aa_29.out.below hb)
          have Ab_32 := Lib.hid (Ab_27.out.below hb)
          have B_33 := Lib.hid (below_next0 B_28.out hb)
          clear hb
          go_wp2
          go_roundw
          case rel => exact ⟨k + 1, t_23, ad_24, c_25, by omega, by go_num, Lib.hid Aa_31.out, Lib.hid Ab_32.out, Lib.hid Ag_30.out, Lib.hid B_33.out⟩
          case measure => simp [intOf] <;> omega
        · obtain rfl : k = l2.length := by omega
          rw [List.take_length] at HAa
          obtain ⟨MA, hMA⟩ : ∃ MA, run may (l2.map toX) M = MA := ⟨_, rfl⟩
          rw [hMA] at HAa
          have hgA := gr_more HGr.out (l2.map toX)
          have hsm := since_more HGr.out (l2.map toX)
          have hel := evs_le (l2.map toX) M
          rw [hMA, List.length_map] at hgA
          rw [hMA] at hsm hel
          have HSM := Lib.hid hsm
          have HGA := Lib.hid hgA
          have HMA := Lib.hid hMA
          have hbA : MA.row.length ≤ 1000000000 ∧ MA.hap.length ≤ 1000000000 := by have h1 := hgA.row; have h2 := hgA.hap; omega
          obtain ⟨E, hE⟩ : ∃ E, evsOf may (l2.map toX) M = E := ⟨_, rfl⟩
          rw [hE] at HSM hel
          have hel2 : E.length ≤ 1000000000 := by omega
          clear hsm hgA hMA hE hlt
          go_wp2_with fail
          refine (rev_any g t_4 (M) ad_5 c_6 wr HAg.out).mono ?_
          rintro e w7 ⟨rfl, hb⟩
          have Ag_22 := Lib.hid (HAg.out.below hb)
          have Aa_23 := Lib.hid (HAa.out.below hb)
          have Ab_24 := Lib.hid (HAb.out.below hb)
          have B_25 := Lib.hid (below_next0 HB.out hb)
          clear hb
          go_wp2_with fail
          have hcall := since_any a ta (MA) ada ca w7 Aa_23.out ⟨#[]⟩ (by simp [ByteArray.size]) (M.rev + 1) hbA.2
          rw [show isPrefix (⟨#[]⟩ : ByteArray).data.toList = true from rfl, HSM.out] at hcall
          refine hcall.mono ?_
          clear hcall
          rintro e w8 ⟨V, rfl, hR, hb⟩
          obtain ⟨kpA, kpc, rfl, kpl, hC⟩ := Kd.R_reads hR
          have Ag_26 := Lib.hid (Ag_22.out.below hb)
          have Aa_27 := Lib.hid (Aa_23.out.below hb)
          have Ab_28 := Lib.hid (Ab_24.out.below hb)
          have B_29 := Lib.hid (below_next0 B_25.out hb)
          have Ckp_30 := Lib.hid (hC)
          clear hR hC hb
          go_wp2_with fail
          refine (copy_any g t_4 (M) ad_5 c_6 w8 Ag_26.out).mono ?_
          rintro e w9 ⟨c9, rfl, hg, hA, hb⟩
          have Gc9_31 := Lib.hid (Nat.le_trans B_29.out.size hg)
          have N_32 := Lib.hid (show c9 ≠ g from by have := blk_lt Ag_26.out.blk; omega)
          have N_33 := Lib.hid (show c9 ≠ a from by have := blk_lt Aa_27.out.blk; omega)
          have N_34 := Lib.hid (show c9 ≠ b from by have := blk_lt Ab_28.out.blk; omega)
          have Ag_35 := Lib.hid (Ag_26.out.below hb)
          have Aa_36 := Lib.hid (Aa_27.out.below hb)
          have Ab_37 := Lib.hid (Ab_28.out.below hb)
          have Ckp_38 := Lib.hid (Kd.C_below Ckp_30.out hb)
          have B_39 := Lib.hid (below_next0 B_29.out hb)
          have Ac9_40 := Lib.hid (hA)
          clear hg hA hb
          go_wp2_with fail
          go_loopw [12] (fun i wr => ∃ (k : Nat) (t : AT) (mc : Md) (ad : Option Addr) (c' : Nat), k ≤ l.length ∧ i = .int .i64 ((k : Int) - 1) ∧ (mc.row.length + 8 * k ≤ 100000 ∧ mc.hap.length + 8 * k ≤ 100000) ∧ Hid (At wr c9 t (mc) ad c') ∧ Hid (At wr a ta (MA) ada ca) ∧ Hid (At wr b t_4 (M) ad_5 c_6) ∧ Hid (At wr g t_4 (M) ad_5 c_6) ∧ Hid (Kd.C kEvt wr kpA E.length E) ∧ Hid (Below w.heap.size w wr)) (fun i _ => (intOf i + 1).toNat)
          case atStart => exact ⟨l.length, t_4, M, ad_5, c_6, by omega, by go_num, ⟨by have := HGr.out.row; omega, by have := HGr.out.hap; omega⟩, Lib.hid Ac9_40.out, Lib.hid Aa_36.out, Lib.hid Ab_37.out, Lib.hid Ag_35.out, Lib.hid Ckp_38.out, Lib.hid B_39.out⟩
          case round =>
            obtain ⟨k, tc, mc, adc, cc, hk, rfl, hbc, HAc, HAa, HAb, HAg, HCk, HB⟩ := hrel
            by_cases hlt : 0 < k
            · obtain ⟨j, rfl⟩ : ∃ j, k = j + 1 := ⟨k - 1, by omega⟩
              have hj : j < l.length := by omega
              have ej : ((j + 1 : Nat) : Int) - 1 = (j : Int) := by omega
              rw [ej]
              have i0 : (0 : Int) ≤ (j : Int) := by omega
              have i1 : (j : Int) < (l.length : Int) := by omega
              have hbd : mc.row.length ≤ 100000000 ∧ mc.hap.length ≤ 100000000 := by omega
              clear hlt ej
              have hdl := do_le (may := mayTx (toX l[j]).cs (toX l[j]).os) (cs := (toX l[j]).cs) (os := (toX l[j]).os) (m := mc) (fun h => (mayTx_len h).2)
              obtain ⟨mn, hmn⟩ : ∃ mn, (doM (mayTx (toX l[j]).cs (toX l[j]).os) (toX l[j]).cs (toX l[j]).os mc).1 = mn := ⟨_, rfl⟩
              rw [hmn] at hdl
              have HMN := Lib.hid hmn
              clear hmn
              obtain ⟨abq_41, A0q_41, c0q_41, A9q_41, c9q_41, e0, f0, f1, l0, g0, l1, g1⟩ := at_Tx (Kd.C_below HC.out HB.out) hj
              cases e0
              have ho := okT_of (HX.out l[j] (List.getElem_mem hj))
              have hcall := do_any c9 tc (mc) adc cc wr HAc.out A0q_41 c0q_41 (toX l[j]).cs A9q_41 c9q_41 (toX l[j]).os l0 g0 l1 g1 ho hbd.1 hbd.2
              have HCLq_41 := Lib.hid hcall
              clear hcall g0 g1 ho l0 l1
              generalize (toX l[j]).cs.length = n0q_41 at *
              generalize (toX l[j]).os.length = n1q_41 at *
              go_wp2_with fail
              clear f0 f1
              refine HCLq_41.out.mono ?_
              rintro e w10 ⟨V, t_42, ad_43, c_44, rfl, _, hA, hK⟩
              have Ag_45 := Lib.hid (HAg.out.kb HAc.out.blk N_32.out.symm hK)
              have Aa_46 := Lib.hid (HAa.out.kb HAc.out.blk N_33.out.symm hK)
              have Ab_47 := Lib.hid (HAb.out.kb HAc.out.blk N_34.out.symm hK)
              have Ckp_48 := Lib.hid (evt_kb HCk.out HAc.out.blk hK)
              have B_49 := Lib.hid (Kb.below HB.out hK Gc9_31.out HB.out.size)
              rw [HMN.out] at hA
              have Ac9_50 := Lib.hid (hA)
              clear hA hK
              go_wp2
              go_roundw
              case rel => exact ⟨j, t_42, mn, ad_43, c_44, by omega, by go_num, by omega, Lib.hid Ac9_50.out, Lib.hid Aa_46.out, Lib.hid Ab_47.out, Lib.hid Ag_45.out, Lib.hid Ckp_48.out, Lib.hid B_49.out⟩
              case measure => simp [intOf] <;> omega
            · obtain rfl : k = 0 := by omega
              have ez : ((0 : Nat) : Int) - 1 = -1 := rfl
              rw [ez]
              clear hlt ez hbc HAc
              go_wp2_with fail
              refine (rev_any g t_4 (M) ad_5 c_6 wr HAg.out).mono ?_
              rintro e w10 ⟨rfl, hb⟩
              have Ag_41 := Lib.hid (HAg.out.below hb)
              have Aa_42 := Lib.hid (HAa.out.below hb)
              have Ab_43 := Lib.hid (HAb.out.below hb)
              have Ckp_44 := Lib.hid (Kd.C_below HCk.out hb)
              have B_45 := Lib.hid (below_next0 HB.out hb)
              clear hb
              go_wp2_with fail
              have hcall := since_any a ta (MA) ada ca w10 Aa_42.out ⟨#[]⟩ (by simp [ByteArray.size]) (M.rev + 1) hbA.2
              rw [show isPrefix (⟨#[]⟩ : ByteArray).data.toList = true from rfl, HSM.out] at hcall
              refine hcall.mono ?_
              clear hcall
              rintro e w11 ⟨V, rfl, hR, hb⟩
              obtain ⟨nwA, nwc, rfl, nwl, hC⟩ := Kd.R_reads hR
              have Ag_46 := Lib.hid (Ag_41.out.below hb)
              have Aa_47 := Lib.hid (Aa_42.out.below hb)
              have Ab_48 := Lib.hid (Ab_43.out.below hb)
              have Ckp_49 := Lib.hid (Kd.C_below Ckp_44.out hb)
              have B_50 := Lib.hid (below_next0 B_45.out hb)
              have Cnw_51 := Lib.hid (hC)
              clear hR hC hb
              go_wp2_with fail
              refine (events_same E _ _ _ _ w11 kpl nwl Ckp_49.out Cnw_51.out hel2).mono ?_
              rintro e w12 ⟨rfl, hb⟩
              have Ag_52 := Lib.hid (Ag_46.out.below hb)
              have Aa_53 := Lib.hid (Aa_47.out.below hb)
              have Ab_54 := Lib.hid (Ab_48.out.below hb)
              have Ckp_55 := Lib.hid (Kd.C_below Ckp_49.out hb)
              have Cnw_56 := Lib.hid (Kd.C_below Cnw_51.out hb)
              have B_57 := Lib.hid (below_next0 B_50.out hb)
              clear hb
              go_wp2_with fail
              refine (rev_any a ta (MA) ada ca w12 Aa_53.out).mono ?_
              rintro e w13 ⟨rfl, hb⟩
              have Ag_58 := Lib.hid (Ag_52.out.below hb)
              have Aa_59 := Lib.hid (Aa_53.out.below hb)
              have Ab_60 := Lib.hid (Ab_54.out.below hb)
              have B_61 := Lib.hid (below_next0 B_57.out hb)
              clear hb
              go_wp2_with fail
              obtain ⟨MC, hMC⟩ : ∃ MC, (cutM MA.rev MA).1 = MC := ⟨_, rfl⟩
              have hcut : (cutM MA.rev MA).2 = 0 := by (have := HGA.out.rev; unfold cutM; rw [if_neg (by omega)])
              have hrowC : MC.row = MA.row ∧ MC.rev = MA.rev := by (rw [← hMC]; unfold cutM; split <;> exact ⟨rfl, rfl⟩)
              have hcall := cut_any a ta (MA) ada ca w13 Aa_59.out MA.rev hbA.2
              rw [hMC, hcut] at hcall
              refine hcall.mono ?_
              clear hcall hMC hcut
              rintro e w14 ⟨adA, cA, rfl, hA, hK⟩
              have Ag_62 := Lib.hid (Ag_58.out.kb Aa_59.out.blk N_11.out.symm hK)
              have Ab_63 := Lib.hid (Ab_60.out.kb Aa_59.out.blk N_17.out hK)
              have B_64 := Lib.hid (Kb.below B_61.out hK Ga_10.out B_61.out.size)
              have Aa_65 := Lib.hid (hA)
              clear hA hK
              go_wp2_with fail
              have hcall := same_any b t_4 (M) ad_5 c_6 g t_4 (M) ad_5 c_6 w14 Ab_63.out Ag_62.out hb2M.1 hb2M.2
              rw [sameM_self] at hcall
              refine hcall.mono ?_
              clear hcall
              rintro e w15 ⟨rfl, hb⟩
              have Ag_66 := Lib.hid (Ag_62.out.below hb)
              have Aa_67 := Lib.hid (Aa_65.out.below hb)
              have Ab_68 := Lib.hid (Ab_63.out.below hb)
              have B_69 := Lib.hid (below_next0 B_64.out hb)
              clear hb
              go_wp2_with fail
              go_loopw [15] (fun i wr => ∃ (k : Nat) (t1 : AT) (ad1 : Option Addr) (c1 : Nat) (t3 : AT) (ad3 : Option Addr) (c3 : Nat), k ≤ l2.length ∧ i = .int .i64 k ∧ Hid (At wr a ta (MC) adA cA) ∧ Hid (At wr b t1 ((run may ((l2.take k).map toX) M)) ad1 c1) ∧ Hid (At wr g t3 ((run may ((l2.take k).map toX) M)) ad3 c3) ∧ Hid (Below w.heap.size w wr)) (fun i _ => l2.length - (intOf i).toNat)
              case atStart => exact ⟨0, t_4, ad_5, c_6, t_4, ad_5, c_6, by omega, rfl, Lib.hid Aa_67.out, Lib.hid Ab_68.out, Lib.hid Ag_66.out, Lib.hid B_69.out⟩
              case round =>
                obtain ⟨k, t1, ad1, c1, t3, ad3, c3, hk, rfl, HAa, HAb, HAg, HB⟩ := hrel
                by_cases hlt : k < l2.length
                · have i0 : (0 : Int) ≤ (k : Int) := by omega
                  have i1 : (k : Int) < (l2.length : Int) := by omega
                  have hbd : (run may ((l2.take k).map toX) M).row.length ≤ 100000000 ∧ (run may ((l2.take k).map toX) M).hap.length ≤ 100000000 := run_bd l2 k h52 M ⟨by have := HGr.out.row; omega, by have := HGr.out.hap; omega⟩
                  have HR := Lib.hid (run_take hlt M)
                  obtain ⟨abq_70, A0q_70, c0q_70, A9q_70, c9q_70, e0, f0, f1, l0, g0, l1, g1⟩ := at_Tx (Kd.C_below HC2.out HB.out) hlt
                  cases e0
                  have ho := okT_of (HX2.out l2[k] (List.getElem_mem hlt))
                  have hcall := do_any g t3 ((run may ((l2.take k).map toX) M)) ad3 c3 wr HAg.out A0q_70 c0q_70 (toX l2[k]).cs A9q_70 c9q_70 (toX l2[k]).os l0 g0 l1 g1 ho hbd.1 hbd.2
                  have HCLq_70 := Lib.hid hcall
                  clear hcall g0 g1 ho l0 l1
                  generalize (toX l2[k]).cs.length = n0q_70 at *
                  generalize (toX l2[k]).os.length = n1q_70 at *
                  go_wp2_with fail
                  clear f0 f1
                  refine HCLq_70.out.mono ?_
                  rintro e w16 ⟨V, t_71, ad_72, c_73, rfl, _, hA, hK⟩
                  have Aa_74 := Lib.hid (HAa.out.kb HAg.out.blk N_11.out hK)
                  have Ab_75 := Lib.hid (HAb.out.kb HAg.out.blk N_16.out hK)
                  have B_76 := Lib.hid (Kb.below HB.out hK Gg_7.out HB.out.size)
                  rw [← HR.out] at hA
                  have Ag_77 := Lib.hid (hA)
                  clear hA hK
                  obtain ⟨abq_78, A0q_78, c0q_78, A9q_78, c9q_78, e0, f0, f1, l0, g0, l1, g1⟩ := at_Tx (Kd.C_below HC2.out B_76.out) hlt
                  cases e0
                  have ho := okT_of (HX2.out l2[k] (List.getElem_mem hlt))
                  have hcall := do_any b t1 ((run may ((l2.take k).map toX) M)) ad1 c1 w16 Ab_75.out A0q_78 c0q_78 (toX l2[k]).cs A9q_78 c9q_78 (toX l2[k]).os l0 g0 l1 g1 ho hbd.1 hbd.2
                  have HCLq_78 := Lib.hid hcall
                  clear hcall g0 g1 ho l0 l1
                  generalize (toX l2[k]).cs.length = n0q_78 at *
                  generalize (toX l2[k]).os.length = n1q_78 at *
                  go_wp2_with fail
                  clear f0 f1
                  refine HCLq_78.out.mono ?_
                  rintro e w17 ⟨V, t_79, ad_80, c_81, rfl, _, hA, hK⟩
                  have Ag_82 := Lib.hid (Ag_77.out.kb Ab_75.out.blk N_16.out.symm hK)
                  have Aa_83 := Lib.hid (Aa_74.out.kb Ab_75.out.blk N_17.out.symm hK)
                  have B_84 := Lib.hid (Kb.below B_76.out hK Gb_15.out B_76.out.size)
                  rw [← HR.out] at hA
                  have Ab_85 := Lib.hid (hA)
                  clear hA hK
                  go_wp2
                  go_roundw
                  case rel => exact ⟨k + 1, t_79, ad_80, c_81, t_71, ad_72, c_73, by omega, by go_num, Lib.hid Aa_83.out, Lib.hid Ab_85.out, Lib.hid Ag_82.out, Lib.hid B_84.out⟩
                  case measure => simp [intOf] <;> omega
                · obtain rfl : k = l2.length := by omega
                  rw [List.take_length, HMA.out] at HAb HAg
                  have hrC := hrowC.1
                  have hvC := hrowC.2
                  have hbC : MC.row.length ≤ 1000000000 := by (rw [hrC]; omega)
                  have HVC := Lib.hid hvC
                  have HRC := Lib.hid hrC
                  clear hrC hvC hrowC hlt
                  go_wp2_with fail
                  have hcall := same_any b t1 (MA) ad1 c1 g t3 (MA) ad3 c3 wr HAb.out HAg.out ⟨hbA.1, hbA.1⟩ ⟨hbA.2, hbA.2⟩
                  rw [sameM_self] at hcall
                  refine hcall.mono ?_
                  clear hcall
                  rintro e w16 ⟨rfl, hb⟩
                  have Ag_70 := Lib.hid (HAg.out.below hb)
                  have Aa_71 := Lib.hid (HAa.out.below hb)
                  have Ab_72 := Lib.hid (HAb.out.below hb)
                  have B_73 := Lib.hid (below_next0 HB.out hb)
                  clear hb
                  go_wp2_with fail
                  refine (list_any a ta (MC) adA cA w16 Aa_71.out ⟨#[]⟩ hbC).mono ?_
                  rintro e w17 ⟨V, rfl, hR, hb⟩
                  rw [listL_nil] at hR
                  obtain ⟨r1A, r1c, rfl, r1l, hC⟩ := Kd.R_reads hR
                  have Ag_74 := Lib.hid (Ag_70.out.below hb)
                  have Aa_75 := Lib.hid (Aa_71.out.below hb)
                  have Ab_76 := Lib.hid (Ab_72.out.below hb)
                  have B_77 := Lib.hid (below_next0 B_73.out hb)
                  have Cr1_78 := Lib.hid (hC)
                  clear hR hC hb
                  go_wp2_with fail
                  refine (list_any g t3 (MA) ad3 c3 w17 Ag_74.out ⟨#[]⟩ hbA.1).mono ?_
                  rintro e w18 ⟨V, rfl, hR, hb⟩
                  rw [listL_nil] at hR
                  obtain ⟨r2A, r2c, rfl, r2l, hC⟩ := Kd.R_reads hR
                  have Ag_79 := Lib.hid (Ag_74.out.below hb)
                  have Aa_80 := Lib.hid (Aa_75.out.below hb)
                  have Ab_81 := Lib.hid (Ab_76.out.below hb)
                  have Cr1_82 := Lib.hid (Kd.C_below Cr1_78.out hb)
                  have B_83 := Lib.hid (below_next0 B_77.out hb)
                  have Cr2_84 := Lib.hid (hC)
                  clear hR hC hb
                  go_wp2_with fail
                  have hc1 := Cr1_82.out
                  rw [HRC.out] at hc1 r1l ⊢
                  refine (entries_same MA.row _ _ _ _ w18 r1l r2l hc1 Cr2_84.out hbA.1).mono ?_
                  rintro e w19 ⟨rfl, hb⟩
                  have Ag_85 := Lib.hid (Ag_79.out.below hb)
                  have Aa_86 := Lib.hid (Aa_80.out.below hb)
                  have Ab_87 := Lib.hid (Ab_81.out.below hb)
                  have B_88 := Lib.hid (below_next0 B_83.out hb)
                  clear hb
                  go_wp2_with fail
                  refine (rev_any a ta (MC) adA cA w19 Aa_86.out).mono ?_
                  rintro e w20 ⟨rfl, hb⟩
                  have Ag_89 := Lib.hid (Ag_85.out.below hb)
                  have Aa_90 := Lib.hid (Aa_86.out.below hb)
                  have Ab_91 := Lib.hid (Ab_87.out.below hb)
                  have B_92 := Lib.hid (below_next0 B_88.out hb)
                  clear hb
                  go_wp2_with fail
                  refine (rev_any g t3 (MA) ad3 c3 w20 Ag_89.out).mono ?_
                  rintro e w21 ⟨rfl, hb⟩
                  have Ag_93 := Lib.hid (Ag_89.out.below hb)
                  have Aa_94 := Lib.hid (Aa_90.out.below hb)
                  have Ab_95 := Lib.hid (Ab_91.out.below hb)
                  have B_96 := Lib.hid (below_next0 B_92.out hb)
                  clear hb
                  rw [HVC.out]
                  go_wp2
                  go_ret
                  exact ⟨by simp, B_96.out⟩
    · go_enter Try.func7, Try.ntmps7
      go_wp2_with fail
      refine (HW.out _ _ _ hc (Kd.C_below HC.out (Below.refl w.heap.size w))).mono ?_
      rintro e w1 ⟨rfl, hb⟩
      have B_1 := Lib.hid (below_next0 (Below.refl w.heap.size w) hb)
      clear hb
      go_wp2_with fail
      refine (HW2.out _ _ _ hc2 (Kd.C_below HC2.out B_1.out)).mono ?_
      rintro e w2 ⟨rfl, hb⟩
      have B_2 := Lib.hid (below_next0 B_1.out hb)
      clear hb
      go_wp2_with fail
      refine (treeAwake_any w2).mono ?_
      rintro e w3 ⟨rfl, hb⟩
      have B_3 := Lib.hid (below_next0 B_2.out hb)
      clear hb
      go_wp2
      go_ret
      exact ⟨rfl, B_3.out⟩
  · go_enter Try.func7, Try.ntmps7
    go_wp2_with fail
    refine (HW.out _ _ _ hc (Kd.C_below HC.out (Below.refl w.heap.size w))).mono ?_
    rintro e w1 ⟨rfl, hb⟩
    have B_1 := Lib.hid (below_next0 (Below.refl w.heap.size w) hb)
    clear hb
    go_wp2_with fail
    refine (treeAwake_any w1).mono ?_
    rintro e w2 ⟨rfl, hb⟩
    have B_2 := Lib.hid (below_next0 B_1.out hb)
    clear hb
    go_wp2
    go_ret
    exact ⟨rfl, B_2.out⟩
end Go.Proofs.Ytobanhbjkomieaa.TA
end
