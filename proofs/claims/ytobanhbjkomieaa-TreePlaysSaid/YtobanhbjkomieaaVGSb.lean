import Derived.Test.YtobanhbjkomieaaVESb
namespace Go.Proofs.Ytobanhbjkomieaa.TA
open Go Go.RowKit Go.Proofs.Ytobanhbjkomieaa.KP Go.Proofs.YtobanhbjkomieaaW.PrintWords Go.Proofs.YtobanhbjkomieaaW.PrintLast Go.Proofs.YtobanhbjkomieaaW.PrintMore
open Go.Proofs.Ytobanhbjkomieaa.RP (wTake wSkip wOne wpAnyH_cast below_next0)
set_option linter.unusedSimpArgs false
set_option linter.unusedVariables false
abbrev bSp : ByteArray := ⟨#[115, 112, 111, 105, 108, 116]⟩
theorem since_all {m : Md} (h : Ok m) : sinceM true ⟨#[]⟩ (m.low + 1) m = (m.hap, 0) := by
  have h1 := h.lo
  unfold sinceM
  rw [if_neg (by simp), if_neg (by omega), if_neg (by omega)]
  have h2 : sinceL ⟨#[]⟩ (m.low + 1) m.hap = m.hap := by
    unfold sinceL
    refine List.filter_eq_self.2 (fun x hx => ?_)
    have h3 := (h.hap x hx).1
    rw [decide_eq_true (by omega)]
    rfl
  rw [h2]
theorem ent_kbT {W W' : World} {C : Option Addr} {l : List Ent} (h : Kd.C kEnt W C l.length l) {tb : Nat} {t : AT} {m : Md} {ad : Option Addr} {c : Nat} {T : TypeId} (hg : W.heap[tb]? = some (.cells (trC t m ad c) T (0, 0))) (hK : Kb tb W W') : Kd.C kEnt W' C l.length l :=
  C_keepE h (fun a ha hn => hK.block _ (ent_lt h a ha hn) (by
    obtain ⟨j, s, hc⟩ := ent_cell h a ha hn
    intro e
    rw [e, blk_cell hg j] at hc
    match j, hc with
    | 0, hc => cases hc
    | 1, hc => cases hc
    | 2, hc => cases hc
    | 3, hc => cases hc
    | 4, hc => cases hc
    | j + 5, hc => simp at hc))
theorem C_putE {q : List Ent} {W : World} {g : Nat} {ad : Addr} (had : ad = ⟨g, 0, none⟩) (hC : Kd.C kEnt W (some ad) q.length q) {j : Nat} (hj : j < q.length) (v : ByteArray) :
    Kd.C kEnt (W.setCell ⟨(ad.add (j * 4)).block, (ad.add (j * 4)).off + 1, none⟩ (.string v)) (some ad) (q.set j ⟨q[j].key, v, q[j].made, q[j].mod⟩).length (q.set j ⟨q[j].key, v, q[j].made, q[j].mod⟩) := by
  subst had
  obtain ⟨h1, h2, h3⟩ := hC
  have hz : kEnt.sz = 4 := rfl
  rw [hz] at h3
  show ReadsRow _ kEnt.sz _ _ _ _
  rw [hz]
  refine ⟨rfl, by rw [List.length_set]; exact h2, fun hp => ?_⟩
  rw [List.length_set] at hp
  obtain ⟨ad, e, h⟩ := h3 hp
  cases e
  simp only [add_plain] at h ⊢
  refine ⟨_, rfl, fun i p hi => ?_⟩
  simp only [add_plain]
  have hil : i < q.length := by
    have := (List.getElem?_eq_some_iff.1 hi).1
    rwa [List.length_set] at this
  obtain ⟨cs, hcs, hK, hcell⟩ := h i q[i] (List.getElem?_eq_getElem hil)
  obtain ⟨_, _, rfl, rfl, ⟨_, _, rfl, rfl, ⟨_, _, rfl, rfl, rfl⟩⟩⟩ := hK
  rw [List.getElem?_set] at hi
  by_cases hij : j = i
  · subst hij
    rw [if_pos rfl, if_pos hj] at hi
    cases hi
    refine ⟨_, rfl, kEnt_mk _ _, fun r u hu => ?_⟩
    rcases r with _ | _ | _ | _ | r
    · rw [World.cell?_setCell_other _ _ _ _ (by simp)]
      exact hcell 0 u hu
    · have : u = .string v := by simpa using hu.symm
      subst this
      exact World.cell?_setCell_same _ _ _ (hcell 1 _ rfl)
    · rw [World.cell?_setCell_other _ _ _ _ (by simp)]
      exact hcell 2 u hu
    · rw [World.cell?_setCell_other _ _ _ _ (by simp)]
      exact hcell 3 u hu
    · simp at hu
  · rw [if_neg hij] at hi
    have hp' : p = q[i] := by rw [List.getElem?_eq_getElem hil] at hi; exact (Option.some.inj hi).symm
    subst hp'
    refine ⟨_, rfl, kEnt_mk _ _, fun r u hu => ?_⟩
    have hr : r < 4 := by
      have := (List.getElem?_eq_some_iff.1 hu).1
      simpa using this
    rw [World.cell?_setCell_other _ _ _ _ (by simp only [ne_eq, Addr.mk.injEq, not_and]; omega)]
    exact hcell r u hu
theorem C_putV {q : List Evt} {W : World} {g : Nat} {ad : Addr} (had : ad = ⟨g, 0, none⟩) (hC : Kd.C kEvt W (some ad) q.length q) {j : Nat} (hj : j < q.length) (v : ByteArray) :
    Kd.C kEvt (W.setCell ⟨(ad.add (j * 4)).block, (ad.add (j * 4)).off + 2, none⟩ (.string v)) (some ad) (q.set j ⟨q[j].rev, q[j].del, v, q[j].val⟩).length (q.set j ⟨q[j].rev, q[j].del, v, q[j].val⟩) := by
  subst had
  obtain ⟨h1, h2, h3⟩ := hC
  have hz : kEvt.sz = 4 := rfl
  rw [hz] at h3
  show ReadsRow _ kEvt.sz _ _ _ _
  rw [hz]
  refine ⟨rfl, by rw [List.length_set]; exact h2, fun hp => ?_⟩
  rw [List.length_set] at hp
  obtain ⟨ad, e, h⟩ := h3 hp
  cases e
  simp only [add_plain] at h ⊢
  refine ⟨_, rfl, fun i p hi => ?_⟩
  simp only [add_plain]
  have hil : i < q.length := by
    have := (List.getElem?_eq_some_iff.1 hi).1
    rwa [List.length_set] at this
  obtain ⟨cs, hcs, hK, hcell⟩ := h i q[i] (List.getElem?_eq_getElem hil)
  obtain ⟨_, _, rfl, rfl, ⟨_, _, rfl, rfl, ⟨_, _, rfl, rfl, rfl⟩⟩⟩ := hK
  rw [List.getElem?_set] at hi
  by_cases hij : j = i
  · subst hij
    rw [if_pos rfl, if_pos hj] at hi
    cases hi
    refine ⟨_, rfl, kEvt_mk _ _, fun r u hu => ?_⟩
    rcases r with _ | _ | _ | _ | r
    · rw [World.cell?_setCell_other _ _ _ _ (by simp)]
      exact hcell 0 u hu
    · rw [World.cell?_setCell_other _ _ _ _ (by simp)]
      exact hcell 1 u hu
    · have : u = .string v := by simpa using hu.symm
      subst this
      exact World.cell?_setCell_same _ _ _ (hcell 2 _ rfl)
    · rw [World.cell?_setCell_other _ _ _ _ (by simp)]
      exact hcell 3 u hu
    · simp at hu
  · rw [if_neg hij] at hi
    have hp' : p = q[i] := by rw [List.getElem?_eq_getElem hil] at hi; exact (Option.some.inj hi).symm
    subst hp'
    refine ⟨_, rfl, kEvt_mk _ _, fun r u hu => ?_⟩
    have hr : r < 4 := by
      have := (List.getElem?_eq_some_iff.1 hu).1
      simpa using this
    rw [World.cell?_setCell_other _ _ _ _ (by simp only [ne_eq, Addr.mk.injEq, not_and]; omega)]
    exact hcell r u hu
theorem At.setRow {W : World} {tb : Nat} {t : AT} {m : Md} {ad : Option Addr} {c : Nat} (h : At W tb t m ad c) {g : Nat} {cells : Array Value} {E : TypeId} (hg : W.heap[g]? = some (.cells cells E (0, 0))) (hE : 166 ≠ E ∧ 218 ≠ E) (hf : ∀ a, ad = some a → 0 < m.hap.length → a.block ≠ g) (j : Nat) (u : Value) :
    At (W.setCell ⟨g, j, none⟩ u) tb t m ad c :=
  h.keepT (fun k cs T hT hk => Below.heap_setCell W ⟨g, j, none⟩ u k (far_type hg hk (by rcases hT with rfl | rfl; exact hE.1; exact hE.2))) (fun a ha hn => Below.heap_setCell W ⟨g, j, none⟩ u a.block (hf a ha hn))
set_option maxHeartbeats 2000000 in
set_option maxRecDepth 100000 in
theorem alike_any (tb : Nat) (t : AT) (m : Md) (ad : Option Addr) (c : Nat) (b : Nat) (A : Option Addr) (ca : Nat) (B : Option Addr) (cb : Nat) (w : World) (hA : At w tb t m ad c) (hT : Rt w b m A ca B cb) (hr : m.row.length ≤ 100000000) (hh : m.hap.length ≤ 100000000) :
    Calls Try.prog 67 #[.pointer (some ⟨tb, 0, none⟩), .pointer (some ⟨b, 0, none⟩)] w fun e w' => e = .returned (.bool true) ∧ Below w.heap.size w w' := by
  have HA := Lib.hid hA
  have HT := Lib.hid hT
  have hlo := hA.ok.lo
  have hw : wrap64 (m.low + 1) = m.low + 1 := by (unfold wrap64; omega)
  clear hA hT
  go_enter Try.func67, Try.ntmps67
  have z0 := (blk_cell HT.out.blk 0).trans rfl
  have z1 := (blk_cell HT.out.blk 1).trans rfl
  have z2 := (blk_cell HT.out.blk 2).trans rfl
  have z3 := (blk_cell HT.out.blk 3).trans rfl
  go_wp2_with fail
  clear z0 z1 z2 z3
  have hcall := since_any tb t (m) ad c w HA.out ⟨#[]⟩ (by simp [ByteArray.size]) (m.low + 1) (by omega)
  rw [show isPrefix (⟨#[]⟩ : ByteArray).data.toList = true from rfl, since_all HA.out.ok] at hcall
  refine hcall.mono ?_
  clear hcall
  rintro e w1 ⟨V, rfl, hR, hb⟩
  obtain ⟨vA, vc, rfl, vl, hC⟩ := Kd.R_reads hR
  have T_1 := Lib.hid (HT.out.below hb)
  have At_2 := Lib.hid (HA.out.below hb)
  have B_3 := Lib.hid (below_next0 (Below.refl w.heap.size w) hb)
  have Cv_4 := Lib.hid (hC)
  clear hR hC hb
  go_wp2_with fail
  refine wp_region_noPanic ?_
  refine wp_region_held_drew (S := fun W => W.cell? ⟨b, 0, none⟩ = some (.slice A m.row.length ca) ∧ W.cell? ⟨b, 1, none⟩ = some (.int .i64 m.rev) ∧ W.cell? ⟨b, 2, none⟩ = some (.int .i64 m.low) ∧ W.cell? ⟨b, 3, none⟩ = some (.slice B m.hap.length cb)) (by kernel_rfl) (⟨(blk_cell (show w1.drew.heap[_]? = _ from T_1.out.blk) 0).trans rfl, (blk_cell (show w1.drew.heap[_]? = _ from T_1.out.blk) 1).trans rfl, (blk_cell (show w1.drew.heap[_]? = _ from T_1.out.blk) 2).trans rfl, (blk_cell (show w1.drew.heap[_]? = _ from T_1.out.blk) 3).trans rfl⟩) (fun hHeld => ?_)
  have hbd0 := Lib.hid ((Below.refl w1.heap.size w1).drew)
  refine wTake 0 ?_
  refine wTake 2 ?_
  refine wTake 3 ?_
  refine wTake 4 ?_
  refine wTake 5 ?_
  refine wTake 6 ?_
  try simp only [Act.put, List.setIfInBounds_toArray, List.set_cons_zero, List.set_cons_succ]
  refine wpAnyH_ready (rs := [1]) (by kernel_rfl) (by simp) (AllReadyH.cons rfl (fun K hK => ?_) AllReadyH.nil)
  go_simp
  refine (len_any tb t m ad c w1.drew (At_2.out.below hbd0.out)).mono ?_
  rintro e w2 ⟨rfl, hb⟩
  have hbd1 := Lib.hid (below_next0 hbd0.out hb)
  clear hb
  go_wp2_with fail
  refine hK.out _ _ ⟨(blk_cell ((hbd1.out.block _ (blk_lt T_1.out.blk)).trans T_1.out.blk) 0).trans rfl, (blk_cell ((hbd1.out.block _ (blk_lt T_1.out.blk)).trans T_1.out.blk) 1).trans rfl, (blk_cell ((hbd1.out.block _ (blk_lt T_1.out.blk)).trans T_1.out.blk) 2).trans rfl, (blk_cell ((hbd1.out.block _ (blk_lt T_1.out.blk)).trans T_1.out.blk) 3).trans rfl⟩ (fun hHeld => ?_)
  clear hK K
  try simp only [Act.put, List.setIfInBounds_toArray, List.set_cons_zero, List.set_cons_succ]
  refine wTake 7 ?_
  refine wTake 8 ?_
  try simp only [Act.put, List.setIfInBounds_toArray, List.set_cons_zero, List.set_cons_succ]
  refine wTake 9 ?_
  try simp only [Act.put, List.setIfInBounds_toArray, List.set_cons_zero, List.set_cons_succ]
  refine wTake 11 ?_
  try simp only [Act.put, List.setIfInBounds_toArray, List.set_cons_zero, List.set_cons_succ]
  refine wTake 12 ?_
  try simp only [Act.put, List.setIfInBounds_toArray, List.set_cons_zero, List.set_cons_succ]
  refine wTake 13 ?_
  try simp only [Act.put, List.setIfInBounds_toArray, List.set_cons_zero, List.set_cons_succ]
  refine wTake 14 ?_
  try simp only [Act.put, List.setIfInBounds_toArray, List.set_cons_zero, List.set_cons_succ]
  refine wpAnyH_ready (rs := [10]) (by kernel_rfl) (by simp) (AllReadyH.cons rfl (fun K hK => ?_) AllReadyH.nil)
  go_simp
  refine (rev_any tb t m ad c w2 (At_2.out.below hbd1.out)).mono ?_
  rintro e w3 ⟨rfl, hb⟩
  have hbd2 := Lib.hid (below_next0 hbd1.out hb)
  clear hb
  go_wp2_with fail
  refine hK.out _ _ ⟨(blk_cell ((hbd2.out.block _ (blk_lt T_1.out.blk)).trans T_1.out.blk) 0).trans rfl, (blk_cell ((hbd2.out.block _ (blk_lt T_1.out.blk)).trans T_1.out.blk) 1).trans rfl, (blk_cell ((hbd2.out.block _ (blk_lt T_1.out.blk)).trans T_1.out.blk) 2).trans rfl, (blk_cell ((hbd2.out.block _ (blk_lt T_1.out.blk)).trans T_1.out.blk) 3).trans rfl⟩ (fun hHeld => ?_)
  clear hK K
  try simp only [Act.put, List.setIfInBounds_toArray, List.set_cons_zero, List.set_cons_succ]
  refine wTake 15 ?_
  refine wTake 16 ?_
  refine wTake 17 ?_
  try simp only [Act.put, List.setIfInBounds_toArray, List.set_cons_zero, List.set_cons_succ]
  refine wTake 18 ?_
  try simp only [Act.put, List.setIfInBounds_toArray, List.set_cons_zero, List.set_cons_succ]
  refine wTake 20 ?_
  try simp only [Act.put, List.setIfInBounds_toArray, List.set_cons_zero, List.set_cons_succ]
  refine wTake 21 ?_
  try simp only [Act.put, List.setIfInBounds_toArray, List.set_cons_zero, List.set_cons_succ]
  refine wTake 22 ?_
  try simp only [Act.put, List.setIfInBounds_toArray, List.set_cons_zero, List.set_cons_succ]
  refine wTake 23 ?_
  try simp only [Act.put, List.setIfInBounds_toArray, List.set_cons_zero, List.set_cons_succ]
  refine wpAnyH_ready (rs := [19]) (by kernel_rfl) (by simp) (AllReadyH.cons rfl (fun K hK => ?_) AllReadyH.nil)
  go_simp
  refine (low_any tb t m ad c w3 (At_2.out.below hbd2.out)).mono ?_
  rintro e w4 ⟨rfl, hb⟩
  have hbd3 := Lib.hid (below_next0 hbd2.out hb)
  clear hb
  go_wp2_with fail
  refine hK.out _ _ ⟨(blk_cell ((hbd3.out.block _ (blk_lt T_1.out.blk)).trans T_1.out.blk) 0).trans rfl, (blk_cell ((hbd3.out.block _ (blk_lt T_1.out.blk)).trans T_1.out.blk) 1).trans rfl, (blk_cell ((hbd3.out.block _ (blk_lt T_1.out.blk)).trans T_1.out.blk) 2).trans rfl, (blk_cell ((hbd3.out.block _ (blk_lt T_1.out.blk)).trans T_1.out.blk) 3).trans rfl⟩ (fun hHeld => ?_)
  clear hK K
  try simp only [Act.put, List.setIfInBounds_toArray, List.set_cons_zero, List.set_cons_succ]
  refine wTake 24 ?_
  refine wTake 25 ?_
  refine wTake 26 ?_
  try simp only [Act.put, List.setIfInBounds_toArray, List.set_cons_zero, List.set_cons_succ]
  refine wTake 27 ?_
  try simp only [Act.put, List.setIfInBounds_toArray, List.set_cons_zero, List.set_cons_succ]
  refine wTake 29 ?_
  try simp only [Act.put, List.setIfInBounds_toArray, List.set_cons_zero, List.set_cons_succ]
  refine wTake 30 ?_
  try simp only [Act.put, List.setIfInBounds_toArray, List.set_cons_zero, List.set_cons_succ]
  refine wTake 31 ?_
  try simp only [Act.put, List.setIfInBounds_toArray, List.set_cons_zero, List.set_cons_succ]
  refine wTake 32 ?_
  try simp only [Act.put, List.setIfInBounds_toArray, List.set_cons_zero, List.set_cons_succ]
  refine wpAnyH_ready (rs := [28]) (by kernel_rfl) (by simp) (AllReadyH.cons rfl (fun K hK => ?_) AllReadyH.nil)
  go_simp
  refine (list_any tb t m ad c w4 (At_2.out.below hbd3.out) ⟨#[]⟩ (by omega)).mono ?_
  rintro e w5 ⟨V, rfl, hR, hb⟩
  have hbd4 := Lib.hid (below_next0 hbd3.out hb)
  rw [listL_nil] at hR
  try dsimp only at hR
  obtain ⟨rA, rc, rfl, hrl, hC⟩ := Kd.R_reads hR
  have HRC := Lib.hid hC
  clear hR hC
  clear hb
  go_wp2_with fail
  refine hK.out _ _ ⟨(blk_cell ((hbd4.out.block _ (blk_lt T_1.out.blk)).trans T_1.out.blk) 0).trans rfl, (blk_cell ((hbd4.out.block _ (blk_lt T_1.out.blk)).trans T_1.out.blk) 1).trans rfl, (blk_cell ((hbd4.out.block _ (blk_lt T_1.out.blk)).trans T_1.out.blk) 2).trans rfl, (blk_cell ((hbd4.out.block _ (blk_lt T_1.out.blk)).trans T_1.out.blk) 3).trans rfl⟩ (fun hHeld => ?_)
  clear hK K
  try simp only [Act.put, List.setIfInBounds_toArray, List.set_cons_zero, List.set_cons_succ]
  refine wpAnyH_ready (rs := [33]) (by kernel_rfl) (by simp) (AllReadyH.cons rfl (fun K hK => ?_) AllReadyH.nil)
  go_simp
  refine (entries_same m.row rA A rc ca w5 hrl T_1.out.cap.1 HRC.out (Kd.C_below T_1.out.row hbd4.out) (by omega)).mono ?_
  rintro e w6 ⟨rfl, hb⟩
  have hbd5 := Lib.hid (below_next0 hbd4.out hb)
  clear hb
  go_wp2_with fail
  refine hK.out _ _ ⟨(blk_cell ((hbd5.out.block _ (blk_lt T_1.out.blk)).trans T_1.out.blk) 0).trans rfl, (blk_cell ((hbd5.out.block _ (blk_lt T_1.out.blk)).trans T_1.out.blk) 1).trans rfl, (blk_cell ((hbd5.out.block _ (blk_lt T_1.out.blk)).trans T_1.out.blk) 2).trans rfl, (blk_cell ((hbd5.out.block _ (blk_lt T_1.out.blk)).trans T_1.out.blk) 3).trans rfl⟩ (fun hHeld => ?_)
  clear hK K
  try simp only [Act.put, List.setIfInBounds_toArray, List.set_cons_zero, List.set_cons_succ]
  refine wTake 34 ?_
  refine wTake 35 ?_
  try simp only [Act.put, List.setIfInBounds_toArray, List.set_cons_zero, List.set_cons_succ]
  refine wTake 36 ?_
  try simp only [Act.put, List.setIfInBounds_toArray, List.set_cons_zero, List.set_cons_succ]
  refine wTake 37 ?_
  refine wTake 38 ?_
  refine wTake 39 ?_
  try simp only [Act.put, List.setIfInBounds_toArray, List.set_cons_zero, List.set_cons_succ]
  refine wTake 40 ?_
  try simp only [Act.put, List.setIfInBounds_toArray, List.set_cons_zero, List.set_cons_succ]
  refine wTake 41 ?_
  try simp only [Act.put, List.setIfInBounds_toArray, List.set_cons_zero, List.set_cons_succ]
  refine wTake 42 ?_
  try simp only [Act.put, List.setIfInBounds_toArray, List.set_cons_zero, List.set_cons_succ]
  refine wTake 43 ?_
  try simp only [Act.put, List.setIfInBounds_toArray, List.set_cons_zero, List.set_cons_succ]
  refine wTake 44 ?_
  try simp only [Act.put, List.setIfInBounds_toArray, List.set_cons_zero, List.set_cons_succ]
  refine wpAnyH_ready (rs := [45]) (by kernel_rfl) (by simp) (AllReadyH.cons rfl (fun K hK => ?_) AllReadyH.nil)
  go_simp
  refine (events_same m.hap vA B vc cb w6 vl T_1.out.cap.2 (Kd.C_below Cv_4.out hbd5.out) (Kd.C_below T_1.out.hap hbd5.out) (by omega)).mono ?_
  rintro e w7 ⟨rfl, hb⟩
  have hbd6 := Lib.hid (below_next0 hbd5.out hb)
  clear hb
  go_wp2_with fail
  refine hK.out _ _ ⟨(blk_cell ((hbd6.out.block _ (blk_lt T_1.out.blk)).trans T_1.out.blk) 0).trans rfl, (blk_cell ((hbd6.out.block _ (blk_lt T_1.out.blk)).trans T_1.out.blk) 1).trans rfl, (blk_cell ((hbd6.out.block _ (blk_lt T_1.out.blk)).trans T_1.out.blk) 2).trans rfl, (blk_cell ((hbd6.out.block _ (blk_lt T_1.out.blk)).trans T_1.out.blk) 3).trans rfl⟩ (fun hHeld => ?_)
  clear hK K
  try simp only [Act.put, List.setIfInBounds_toArray, List.set_cons_zero, List.set_cons_succ]
  refine wTake 46 ?_
  refine wTake 47 ?_
  try simp only [Act.put, List.setIfInBounds_toArray, List.set_cons_zero, List.set_cons_succ]
  refine wpAnyH_done (by kernel_rfl) ?_ _
  refine NoPanic.normal ?_
  clear hHeld
  go_wp2
  go_ret
  exact ⟨by first | rfl | (simp; done), below_next0 B_3.out hbd6.out⟩
set_option maxHeartbeats 2000000 in
set_option maxRecDepth 100000 in
theorem asked_any (tb : Nat) (t : AT) (m : Md) (ad : Option Addr) (c : Nat) (b : Nat) (A : Option Addr) (ca : Nat) (B : Option Addr) (cb : Nat) (w : World) (hA : At w tb t m ad c) (hT : Rt w b m A ca B cb) (hr : m.row.length ≤ 100000000) (hh : m.hap.length ≤ 100000000) (hn9 : 0 ≤ m.low) (hok : Ok m) (kd : Int) (C : Option Addr) (cc : Nat) (cs : List Cnd) (O : Option Addr) (co : Nat) (os : List Opn) (key : ByteArray) (n : Int) (hcc : cs.length ≤ cc) (hC : Kd.C kCnd w C cs.length cs) (hl : cs.length ≤ 9223372036854775807) (hkey : key.size ≤ 9223372036854775807) :
    Calls Try.prog 66 #[.pointer (some ⟨tb, 0, none⟩), .pointer (some ⟨b, 0, none⟩), .agg #[.int .u8 kd, .slice C cs.length cc, .slice O os.length co, .string key, .int .i64 n]] w fun e w' => e = .returned (.bool true) ∧ Below w.heap.size w w' := by
  have HA := Lib.hid hA
  have HT := Lib.hid hT
  have HC := Lib.hid hC
  have HOK := Lib.hid hok
  clear hA hT hC hok
  go_enter Try.func66, Try.ntmps66
  go_wp2_with fail
  obtain ⟨ab, hab⟩ : ∃ X, X = w.heap.size := ⟨_, rfl⟩
  try rw [← hab]
  have hb : Below w.heap.size w (w.alloc (.cells #[.int .u8 kd, .slice C cs.length cc, .slice O os.length co, .string key, .int .i64 n] 96)) := below_alloc (Below.refl _ _) _
  have hN : (w.alloc (.cells #[.int .u8 kd, .slice C cs.length cc, .slice O os.length co, .string key, .int .i64 n] 96)).heap[ab]? = some (.cells #[.int .u8 kd, .slice C cs.length cc, .slice O os.length co, .string key, .int .i64 n] 96 (0, 0)) := hab ▸ heap_alloc_new w (.cells #[.int .u8 kd, .slice C cs.length cc, .slice O os.length co, .string key, .int .i64 n] 96)
  clear hab
  generalize w.alloc (.cells #[.int .u8 kd, .slice C cs.length cc, .slice O os.length co, .string key, .int .i64 n] 96) = w1 at *
  have T_1 := Lib.hid (HT.out.below hb)
  have At_2 := Lib.hid (HA.out.below hb)
  have Cc_3 := Lib.hid (Kd.C_below HC.out hb)
  have B_4 := Lib.hid (below_next0 (Below.refl w.heap.size w) hb)
  clear hb
  have Hab_5 := Lib.hid (hN)
  clear hN
  obtain ⟨SL, hSL⟩ : ∃ SL, (sinceM (isPrefix key.data.toList) key n m).1 = SL := ⟨_, rfl⟩
  obtain ⟨sc, hsc⟩ : ∃ sc, (sinceM (isPrefix key.data.toList) key n m).2 = sc := ⟨_, rfl⟩
  have hsl : SL.length ≤ 1000000000 := by (rw [← hSL]; unfold sinceM; split <;> (try split) <;> (try split) <;> simp only [List.length_nil] <;> first | omega | exact Nat.le_trans (sinceL_le _ _ _) (by omega))
  have hcall := since_any tb t (m) ad c w1 At_2.out key (by omega) n (by omega)
  rw [hSL, hsc] at hcall
  have hcall2 := fun W h => sinceR_any b m A ca B cb W h (by omega) HOK.out key hkey n (by omega)
  rw [hSL, hsc] at hcall2
  have HC2 := Lib.hid hcall2
  clear hcall2 hSL hsc
  refine hcall.mono ?_
  clear hcall
  rintro e w2 ⟨V, rfl, hR, hb⟩
  obtain ⟨v1A, v1c, rfl, v1l, hC⟩ := Kd.R_reads hR
  have T_6 := Lib.hid (T_1.out.below hb)
  have At_7 := Lib.hid (At_2.out.below hb)
  have Cc_8 := Lib.hid (Kd.C_below Cc_3.out hb)
  have Hab_9 := Lib.hid ((hb.block _ (blk_lt Hab_5.out)).trans Hab_5.out)
  have B_10 := Lib.hid (below_next0 B_4.out hb)
  have Cv_11 := Lib.hid (hC)
  clear hR hC hb
  have z0 := (blk_cell Hab_9.out 0).trans rfl
  have z1 := (blk_cell Hab_9.out 1).trans rfl
  have z2 := (blk_cell Hab_9.out 2).trans rfl
  have z3 := (blk_cell Hab_9.out 3).trans rfl
  have z4 := (blk_cell Hab_9.out 4).trans rfl
  go_wp2_with fail
  clear z0 z1 z2 z3 z4
  refine (HC2.out w2 T_6.out).mono ?_
  rintro e w3 ⟨V, rfl, hR, hb⟩
  obtain ⟨v2A, v2c, rfl, v2l, hC⟩ := Kd.R_reads hR
  have T_12 := Lib.hid (T_6.out.below hb)
  have At_13 := Lib.hid (At_7.out.below hb)
  have Cc_14 := Lib.hid (Kd.C_below Cc_8.out hb)
  have Cv1_15 := Lib.hid (Kd.C_below Cv_11.out hb)
  have Hab_16 := Lib.hid ((hb.block _ (blk_lt Hab_9.out)).trans Hab_9.out)
  have B_17 := Lib.hid (below_next0 B_10.out hb)
  have Cv_18 := Lib.hid (hC)
  clear hR hC hb HC2
  have z0 := (blk_cell Hab_16.out 0).trans rfl
  have z1 := (blk_cell Hab_16.out 1).trans rfl
  have z2 := (blk_cell Hab_16.out 2).trans rfl
  have z3 := (blk_cell Hab_16.out 3).trans rfl
  have z4 := (blk_cell Hab_16.out 4).trans rfl
  go_wp2_with fail
  clear z0 z1 z2 z3 z4
  obtain ⟨Y, hY⟩ : ∃ Y, getD key m.row = Y := ⟨_, rfl⟩
  obtain ⟨bs, hbs⟩ : ∃ bs, (getL key m.row).isSome = bs := ⟨_, rfl⟩
  have hcall := treeGet_any tb t (m) ad c w3 At_13.out key
  have hcall2 := fun W h => getR_any b m A ca B cb W h (by omega) key
  rw [hY, hbs] at hcall
  rw [hY, hbs] at hcall2
  have HC2 := Lib.hid hcall2
  clear hcall2 hY hbs
  refine hcall.mono ?_
  clear hcall
  rintro e w4 ⟨rfl, hb⟩
  have T_19 := Lib.hid (T_12.out.below hb)
  have At_20 := Lib.hid (At_13.out.below hb)
  have Cc_21 := Lib.hid (Kd.C_below Cc_14.out hb)
  have Cv1_22 := Lib.hid (Kd.C_below Cv1_15.out hb)
  have Cv2_23 := Lib.hid (Kd.C_below Cv_18.out hb)
  have Hab_24 := Lib.hid ((hb.block _ (blk_lt Hab_16.out)).trans Hab_16.out)
  have B_25 := Lib.hid (below_next0 B_17.out hb)
  clear hb
  simp only [entV]
  have z0 := (blk_cell Hab_24.out 0).trans rfl
  have z1 := (blk_cell Hab_24.out 1).trans rfl
  have z2 := (blk_cell Hab_24.out 2).trans rfl
  have z3 := (blk_cell Hab_24.out 3).trans rfl
  have z4 := (blk_cell Hab_24.out 4).trans rfl
  have zz3 := (cell_alloc2 w4 (.cells #[.string Y.key, .string Y.val, .int .i64 Y.made, .int .i64 Y.mod] 62) (a := ⟨ab, 3, none⟩) (blk_lt Hab_24.out)).trans z3
  go_wp2_with fail
  clear z0 z1 z2 z3 z4
  clear zz3
  obtain ⟨yb, hyb⟩ : ∃ X, X = w4.heap.size := ⟨_, rfl⟩
  try rw [← hyb]
  have hb : Below w4.heap.size w4 (w4.alloc (.cells #[.string Y.key, .string Y.val, .int .i64 Y.made, .int .i64 Y.mod] 62)) := below_alloc (Below.refl _ _) _
  have hN : (w4.alloc (.cells #[.string Y.key, .string Y.val, .int .i64 Y.made, .int .i64 Y.mod] 62)).heap[yb]? = some (.cells #[.string Y.key, .string Y.val, .int .i64 Y.made, .int .i64 Y.mod] 62 (0, 0)) := hyb ▸ heap_alloc_new w4 (.cells #[.string Y.key, .string Y.val, .int .i64 Y.made, .int .i64 Y.mod] 62)
  clear hyb
  generalize w4.alloc (.cells #[.string Y.key, .string Y.val, .int .i64 Y.made, .int .i64 Y.mod] 62) = w5 at *
  have T_26 := Lib.hid (T_19.out.below hb)
  have At_27 := Lib.hid (At_20.out.below hb)
  have Cc_28 := Lib.hid (Kd.C_below Cc_21.out hb)
  have Cv1_29 := Lib.hid (Kd.C_below Cv1_22.out hb)
  have Cv2_30 := Lib.hid (Kd.C_below Cv2_23.out hb)
  have Hab_31 := Lib.hid ((hb.block _ (blk_lt Hab_24.out)).trans Hab_24.out)
  have B_32 := Lib.hid (below_next0 B_25.out hb)
  clear hb
  have Hyb_33 := Lib.hid (hN)
  clear hN
  refine (HC2.out w5 T_26.out).mono ?_
  rintro e w6 ⟨rfl, hb⟩
  have T_34 := Lib.hid (T_26.out.below hb)
  have At_35 := Lib.hid (At_27.out.below hb)
  have Cc_36 := Lib.hid (Kd.C_below Cc_28.out hb)
  have Cv1_37 := Lib.hid (Kd.C_below Cv1_29.out hb)
  have Cv2_38 := Lib.hid (Kd.C_below Cv2_30.out hb)
  have Hab_39 := Lib.hid ((hb.block _ (blk_lt Hab_31.out)).trans Hab_31.out)
  have Hyb_40 := Lib.hid ((hb.block _ (blk_lt Hyb_33.out)).trans Hyb_33.out)
  have B_41 := Lib.hid (below_next0 B_32.out hb)
  clear hb
  simp only [entV]
  clear HC2
  go_wp2_with fail
  obtain ⟨zb, hzb⟩ : ∃ X, X = w6.heap.size := ⟨_, rfl⟩
  try rw [← hzb]
  have hb : Below w6.heap.size w6 (w6.alloc (.cells #[.string Y.key, .string Y.val, .int .i64 Y.made, .int .i64 Y.mod] 62)) := below_alloc (Below.refl _ _) _
  have hN : (w6.alloc (.cells #[.string Y.key, .string Y.val, .int .i64 Y.made, .int .i64 Y.mod] 62)).heap[zb]? = some (.cells #[.string Y.key, .string Y.val, .int .i64 Y.made, .int .i64 Y.mod] 62 (0, 0)) := hzb ▸ heap_alloc_new w6 (.cells #[.string Y.key, .string Y.val, .int .i64 Y.made, .int .i64 Y.mod] 62)
  clear hzb
  generalize w6.alloc (.cells #[.string Y.key, .string Y.val, .int .i64 Y.made, .int .i64 Y.mod] 62) = w7 at *
  have T_42 := Lib.hid (T_34.out.below hb)
  have At_43 := Lib.hid (At_35.out.below hb)
  have Cc_44 := Lib.hid (Kd.C_below Cc_36.out hb)
  have Cv1_45 := Lib.hid (Kd.C_below Cv1_37.out hb)
  have Cv2_46 := Lib.hid (Kd.C_below Cv2_38.out hb)
  have Hab_47 := Lib.hid ((hb.block _ (blk_lt Hab_39.out)).trans Hab_39.out)
  have Hyb_48 := Lib.hid ((hb.block _ (blk_lt Hyb_40.out)).trans Hyb_40.out)
  have B_49 := Lib.hid (below_next0 B_41.out hb)
  clear hb
  have Hzb_50 := Lib.hid (hN)
  clear hN
  refine wp_region_noPanic ?_
  refine wp_region_held_drew (S := fun W => W.cell? ⟨ab, 1, none⟩ = some (.slice C cs.length cc) ∧ W.cell? ⟨ab, 3, none⟩ = some (.string key) ∧ W.cell? ⟨yb, 0, none⟩ = some (.string Y.key) ∧ W.cell? ⟨yb, 1, none⟩ = some (.string Y.val) ∧ W.cell? ⟨yb, 2, none⟩ = some (.int .i64 Y.made) ∧ W.cell? ⟨yb, 3, none⟩ = some (.int .i64 Y.mod) ∧ W.cell? ⟨zb, 0, none⟩ = some (.string Y.key) ∧ W.cell? ⟨zb, 1, none⟩ = some (.string Y.val) ∧ W.cell? ⟨zb, 2, none⟩ = some (.int .i64 Y.made) ∧ W.cell? ⟨zb, 3, none⟩ = some (.int .i64 Y.mod)) (by kernel_rfl) (⟨(blk_cell (show w7.drew.heap[_]? = _ from Hab_47.out) 1).trans rfl, (blk_cell (show w7.drew.heap[_]? = _ from Hab_47.out) 3).trans rfl, (blk_cell (show w7.drew.heap[_]? = _ from Hyb_48.out) 0).trans rfl, (blk_cell (show w7.drew.heap[_]? = _ from Hyb_48.out) 1).trans rfl, (blk_cell (show w7.drew.heap[_]? = _ from Hyb_48.out) 2).trans rfl, (blk_cell (show w7.drew.heap[_]? = _ from Hyb_48.out) 3).trans rfl, (blk_cell (show w7.drew.heap[_]? = _ from Hzb_50.out) 0).trans rfl, (blk_cell (show w7.drew.heap[_]? = _ from Hzb_50.out) 1).trans rfl, (blk_cell (show w7.drew.heap[_]? = _ from Hzb_50.out) 2).trans rfl, (blk_cell (show w7.drew.heap[_]? = _ from Hzb_50.out) 3).trans rfl⟩) (fun hHeld => ?_)
  have hbd0 := Lib.hid ((Below.refl w7.heap.size w7).drew)
  obtain ⟨LL, hLL⟩ : ∃ LL, listL key m.row = LL := ⟨_, rfl⟩
  have hll : LL.length ≤ 1000000000 := by (rw [← hLL]; exact Nat.le_trans (listL_le _ _) (by omega))
  have HLL := Lib.hid hLL
  clear hLL
  refine wTake 0 ?_
  refine wTake 1 ?_
  try simp only [Act.put, List.setIfInBounds_toArray, List.set_cons_zero, List.set_cons_succ]
  refine wpAnyH_ready (rs := [2]) (by kernel_rfl) (by simp) (AllReadyH.cons rfl (fun K hK => ?_) AllReadyH.nil)
  go_simp
  refine (events_same SL v1A v2A v1c v2c w7.drew v1l v2l (Kd.C_below Cv1_45.out hbd0.out) (Kd.C_below Cv2_46.out hbd0.out) hsl).mono ?_
  rintro e w8 ⟨rfl, hb⟩
  have hbd1 := Lib.hid (below_next0 hbd0.out hb)
  clear hb
  go_wp2_with fail
  refine hK.out _ _ ⟨(blk_cell ((hbd1.out.block _ (blk_lt Hab_47.out)).trans Hab_47.out) 1).trans rfl, (blk_cell ((hbd1.out.block _ (blk_lt Hab_47.out)).trans Hab_47.out) 3).trans rfl, (blk_cell ((hbd1.out.block _ (blk_lt Hyb_48.out)).trans Hyb_48.out) 0).trans rfl, (blk_cell ((hbd1.out.block _ (blk_lt Hyb_48.out)).trans Hyb_48.out) 1).trans rfl, (blk_cell ((hbd1.out.block _ (blk_lt Hyb_48.out)).trans Hyb_48.out) 2).trans rfl, (blk_cell ((hbd1.out.block _ (blk_lt Hyb_48.out)).trans Hyb_48.out) 3).trans rfl, (blk_cell ((hbd1.out.block _ (blk_lt Hzb_50.out)).trans Hzb_50.out) 0).trans rfl, (blk_cell ((hbd1.out.block _ (blk_lt Hzb_50.out)).trans Hzb_50.out) 1).trans rfl, (blk_cell ((hbd1.out.block _ (blk_lt Hzb_50.out)).trans Hzb_50.out) 2).trans rfl, (blk_cell ((hbd1.out.block _ (blk_lt Hzb_50.out)).trans Hzb_50.out) 3).trans rfl⟩ (fun hHeld => ?_)
  clear hK K
  try simp only [Act.put, List.setIfInBounds_toArray, List.set_cons_zero, List.set_cons_succ]
  refine wTake 3 ?_
  try simp only [Act.put, List.setIfInBounds_toArray, List.set_cons_zero, List.set_cons_succ]
  refine wTake 4 ?_
  try simp only [Act.put, List.setIfInBounds_toArray, List.set_cons_zero, List.set_cons_succ]
  refine wTake 5 ?_
  try simp only [Act.put, List.setIfInBounds_toArray, List.set_cons_zero, List.set_cons_succ]
  refine wTake 6 ?_
  refine wTake 7 ?_
  refine wTake 8 ?_
  try simp only [Act.put, List.setIfInBounds_toArray, List.set_cons_zero, List.set_cons_succ]
  refine wTake 9 ?_
  try simp only [Act.put, List.setIfInBounds_toArray, List.set_cons_zero, List.set_cons_succ]
  refine wTake 10 ?_
  try simp only [Act.put, List.setIfInBounds_toArray, List.set_cons_zero, List.set_cons_succ]
  refine wTake 11 ?_
  refine wTake 12 ?_
  refine wTake 13 ?_
  try simp only [Act.put, List.setIfInBounds_toArray, List.set_cons_zero, List.set_cons_succ]
  refine wTake 14 ?_
  try simp only [Act.put, List.setIfInBounds_toArray, List.set_cons_zero, List.set_cons_succ]
  refine wTake 15 ?_
  try simp only [Act.put, List.setIfInBounds_toArray, List.set_cons_zero, List.set_cons_succ]
  refine wTake 16 ?_
  refine wTake 17 ?_
  refine wTake 18 ?_
  try simp only [Act.put, List.setIfInBounds_toArray, List.set_cons_zero, List.set_cons_succ]
  refine wTake 19 ?_
  try simp only [Act.put, List.setIfInBounds_toArray, List.set_cons_zero, List.set_cons_succ]
  refine wTake 20 ?_
  try simp only [Act.put, List.setIfInBounds_toArray, List.set_cons_zero, List.set_cons_succ]
  refine wTake 21 ?_
  try simp only [Act.put, List.setIfInBounds_toArray, List.set_cons_zero, List.set_cons_succ]
  refine wTake 23 ?_
  try simp only [Act.put, List.setIfInBounds_toArray, List.set_cons_zero, List.set_cons_succ]
  refine wTake 24 ?_
  try simp only [Act.put, List.setIfInBounds_toArray, List.set_cons_zero, List.set_cons_succ]
  refine wTake 25 ?_
  try simp only [Act.put, List.setIfInBounds_toArray, List.set_cons_zero, List.set_cons_succ]
  refine wpAnyH_ready (rs := [22]) (by kernel_rfl) (by simp) (AllReadyH.cons rfl (fun K hK => ?_) AllReadyH.nil)
  go_simp
  refine (list_any tb t m ad c w8 (At_43.out.below hbd1.out) key (by omega)).mono ?_
  rintro e w9 ⟨V, rfl, hR, hb⟩
  have hbd2 := Lib.hid (below_next0 hbd1.out hb)
  rw [HLL.out] at hR
  obtain ⟨r1A, r1c, rfl, hrl1, hC⟩ := Kd.R_reads hR
  have HR1 := Lib.hid hC
  clear hR hC
  clear hb
  go_wp2_with fail
  refine hK.out _ _ ⟨(blk_cell ((hbd2.out.block _ (blk_lt Hab_47.out)).trans Hab_47.out) 1).trans rfl, (blk_cell ((hbd2.out.block _ (blk_lt Hab_47.out)).trans Hab_47.out) 3).trans rfl, (blk_cell ((hbd2.out.block _ (blk_lt Hyb_48.out)).trans Hyb_48.out) 0).trans rfl, (blk_cell ((hbd2.out.block _ (blk_lt Hyb_48.out)).trans Hyb_48.out) 1).trans rfl, (blk_cell ((hbd2.out.block _ (blk_lt Hyb_48.out)).trans Hyb_48.out) 2).trans rfl, (blk_cell ((hbd2.out.block _ (blk_lt Hyb_48.out)).trans Hyb_48.out) 3).trans rfl, (blk_cell ((hbd2.out.block _ (blk_lt Hzb_50.out)).trans Hzb_50.out) 0).trans rfl, (blk_cell ((hbd2.out.block _ (blk_lt Hzb_50.out)).trans Hzb_50.out) 1).trans rfl, (blk_cell ((hbd2.out.block _ (blk_lt Hzb_50.out)).trans Hzb_50.out) 2).trans rfl, (blk_cell ((hbd2.out.block _ (blk_lt Hzb_50.out)).trans Hzb_50.out) 3).trans rfl⟩ (fun hHeld => ?_)
  clear hK K
  try simp only [Act.put, List.setIfInBounds_toArray, List.set_cons_zero, List.set_cons_succ]
  refine wpAnyH_ready (rs := [26]) (by kernel_rfl) (by simp) (AllReadyH.cons rfl (fun K hK => ?_) AllReadyH.nil)
  go_simp
  refine (listR_any b m A ca B cb w9 (T_42.out.below hbd2.out) (by omega) key).mono ?_
  rintro e w10 ⟨V, rfl, hR, hb⟩
  have hbd3 := Lib.hid (below_next0 hbd2.out hb)
  rw [HLL.out] at hR
  obtain ⟨r2A, r2c, rfl, hrl2, hC⟩ := Kd.R_reads hR
  have HR2 := Lib.hid hC
  have HR1b := Lib.hid (Kd.C_below HR1.out hb)
  clear hR hC
  clear hb
  go_wp2_with fail
  refine hK.out _ _ ⟨(blk_cell ((hbd3.out.block _ (blk_lt Hab_47.out)).trans Hab_47.out) 1).trans rfl, (blk_cell ((hbd3.out.block _ (blk_lt Hab_47.out)).trans Hab_47.out) 3).trans rfl, (blk_cell ((hbd3.out.block _ (blk_lt Hyb_48.out)).trans Hyb_48.out) 0).trans rfl, (blk_cell ((hbd3.out.block _ (blk_lt Hyb_48.out)).trans Hyb_48.out) 1).trans rfl, (blk_cell ((hbd3.out.block _ (blk_lt Hyb_48.out)).trans Hyb_48.out) 2).trans rfl, (blk_cell ((hbd3.out.block _ (blk_lt Hyb_48.out)).trans Hyb_48.out) 3).trans rfl, (blk_cell ((hbd3.out.block _ (blk_lt Hzb_50.out)).trans Hzb_50.out) 0).trans rfl, (blk_cell ((hbd3.out.block _ (blk_lt Hzb_50.out)).trans Hzb_50.out) 1).trans rfl, (blk_cell ((hbd3.out.block _ (blk_lt Hzb_50.out)).trans Hzb_50.out) 2).trans rfl, (blk_cell ((hbd3.out.block _ (blk_lt Hzb_50.out)).trans Hzb_50.out) 3).trans rfl⟩ (fun hHeld => ?_)
  clear hK K
  try simp only [Act.put, List.setIfInBounds_toArray, List.set_cons_zero, List.set_cons_succ]
  refine wpAnyH_ready (rs := [27]) (by kernel_rfl) (by simp) (AllReadyH.cons rfl (fun K hK => ?_) AllReadyH.nil)
  go_simp
  refine (entries_same LL r1A r2A r1c r2c w10 hrl1 hrl2 HR1b.out HR2.out hll).mono ?_
  rintro e w11 ⟨rfl, hb⟩
  have hbd4 := Lib.hid (below_next0 hbd3.out hb)
  clear hb
  go_wp2_with fail
  refine hK.out _ _ ⟨(blk_cell ((hbd4.out.block _ (blk_lt Hab_47.out)).trans Hab_47.out) 1).trans rfl, (blk_cell ((hbd4.out.block _ (blk_lt Hab_47.out)).trans Hab_47.out) 3).trans rfl, (blk_cell ((hbd4.out.block _ (blk_lt Hyb_48.out)).trans Hyb_48.out) 0).trans rfl, (blk_cell ((hbd4.out.block _ (blk_lt Hyb_48.out)).trans Hyb_48.out) 1).trans rfl, (blk_cell ((hbd4.out.block _ (blk_lt Hyb_48.out)).trans Hyb_48.out) 2).trans rfl, (blk_cell ((hbd4.out.block _ (blk_lt Hyb_48.out)).trans Hyb_48.out) 3).trans rfl, (blk_cell ((hbd4.out.block _ (blk_lt Hzb_50.out)).trans Hzb_50.out) 0).trans rfl, (blk_cell ((hbd4.out.block _ (blk_lt Hzb_50.out)).trans Hzb_50.out) 1).trans rfl, (blk_cell ((hbd4.out.block _ (blk_lt Hzb_50.out)).trans Hzb_50.out) 2).trans rfl, (blk_cell ((hbd4.out.block _ (blk_lt Hzb_50.out)).trans Hzb_50.out) 3).trans rfl⟩ (fun hHeld => ?_)
  clear hK K
  try simp only [Act.put, List.setIfInBounds_toArray, List.set_cons_zero, List.set_cons_succ]
  refine wTake 28 ?_
  refine wTake 29 ?_
  try simp only [Act.put, List.setIfInBounds_toArray, List.set_cons_zero, List.set_cons_succ]
  refine wTake 30 ?_
  try simp only [Act.put, List.setIfInBounds_toArray, List.set_cons_zero, List.set_cons_succ]
  refine wTake 31 ?_
  try simp only [Act.put, List.setIfInBounds_toArray, List.set_cons_zero, List.set_cons_succ]
  refine wTake 32 ?_
  try simp only [Act.put, List.setIfInBounds_toArray, List.set_cons_zero, List.set_cons_succ]
  refine wTake 33 ?_
  try simp only [Act.put, List.setIfInBounds_toArray, List.set_cons_zero, List.set_cons_succ]
  refine wTake 35 ?_
  try simp only [Act.put, List.setIfInBounds_toArray, List.set_cons_zero, List.set_cons_succ]
  refine wTake 36 ?_
  try simp only [Act.put, List.setIfInBounds_toArray, List.set_cons_zero, List.set_cons_succ]
  refine wTake 37 ?_
  try simp only [Act.put, List.setIfInBounds_toArray, List.set_cons_zero, List.set_cons_succ]
  refine wTake 38 ?_
  try simp only [Act.put, List.setIfInBounds_toArray, List.set_cons_zero, List.set_cons_succ]
  refine wpAnyH_ready (rs := [34]) (by kernel_rfl) (by simp) (AllReadyH.cons rfl (fun K hK => ?_) AllReadyH.nil)
  go_simp
  refine (holds_any tb t m ad c w11 (At_43.out.below hbd4.out) C cc cs hcc (Kd.C_below Cc_44.out hbd4.out) hl).mono ?_
  rintro e w12 ⟨rfl, hb⟩
  have hbd5 := Lib.hid (below_next0 hbd4.out hb)
  clear hb
  go_wp2_with fail
  refine hK.out _ _ ⟨(blk_cell ((hbd5.out.block _ (blk_lt Hab_47.out)).trans Hab_47.out) 1).trans rfl, (blk_cell ((hbd5.out.block _ (blk_lt Hab_47.out)).trans Hab_47.out) 3).trans rfl, (blk_cell ((hbd5.out.block _ (blk_lt Hyb_48.out)).trans Hyb_48.out) 0).trans rfl, (blk_cell ((hbd5.out.block _ (blk_lt Hyb_48.out)).trans Hyb_48.out) 1).trans rfl, (blk_cell ((hbd5.out.block _ (blk_lt Hyb_48.out)).trans Hyb_48.out) 2).trans rfl, (blk_cell ((hbd5.out.block _ (blk_lt Hyb_48.out)).trans Hyb_48.out) 3).trans rfl, (blk_cell ((hbd5.out.block _ (blk_lt Hzb_50.out)).trans Hzb_50.out) 0).trans rfl, (blk_cell ((hbd5.out.block _ (blk_lt Hzb_50.out)).trans Hzb_50.out) 1).trans rfl, (blk_cell ((hbd5.out.block _ (blk_lt Hzb_50.out)).trans Hzb_50.out) 2).trans rfl, (blk_cell ((hbd5.out.block _ (blk_lt Hzb_50.out)).trans Hzb_50.out) 3).trans rfl⟩ (fun hHeld => ?_)
  clear hK K
  try simp only [Act.put, List.setIfInBounds_toArray, List.set_cons_zero, List.set_cons_succ]
  refine wpAnyH_ready (rs := [39]) (by kernel_rfl) (by simp) (AllReadyH.cons rfl (fun K hK => ?_) AllReadyH.nil)
  go_simp
  refine (holdsR_any b m A ca B cb w12 (T_42.out.below hbd5.out) (by omega) C cc cs hcc (Kd.C_below Cc_44.out hbd5.out) hl).mono ?_
  rintro e w13 ⟨rfl, hb⟩
  have hbd6 := Lib.hid (below_next0 hbd5.out hb)
  clear hb
  go_wp2_with fail
  refine hK.out _ _ ⟨(blk_cell ((hbd6.out.block _ (blk_lt Hab_47.out)).trans Hab_47.out) 1).trans rfl, (blk_cell ((hbd6.out.block _ (blk_lt Hab_47.out)).trans Hab_47.out) 3).trans rfl, (blk_cell ((hbd6.out.block _ (blk_lt Hyb_48.out)).trans Hyb_48.out) 0).trans rfl, (blk_cell ((hbd6.out.block _ (blk_lt Hyb_48.out)).trans Hyb_48.out) 1).trans rfl, (blk_cell ((hbd6.out.block _ (blk_lt Hyb_48.out)).trans Hyb_48.out) 2).trans rfl, (blk_cell ((hbd6.out.block _ (blk_lt Hyb_48.out)).trans Hyb_48.out) 3).trans rfl, (blk_cell ((hbd6.out.block _ (blk_lt Hzb_50.out)).trans Hzb_50.out) 0).trans rfl, (blk_cell ((hbd6.out.block _ (blk_lt Hzb_50.out)).trans Hzb_50.out) 1).trans rfl, (blk_cell ((hbd6.out.block _ (blk_lt Hzb_50.out)).trans Hzb_50.out) 2).trans rfl, (blk_cell ((hbd6.out.block _ (blk_lt Hzb_50.out)).trans Hzb_50.out) 3).trans rfl⟩ (fun hHeld => ?_)
  clear hK K
  try simp only [Act.put, List.setIfInBounds_toArray, List.set_cons_zero, List.set_cons_succ]
  refine wTake 40 ?_
  refine wTake 41 ?_
  refine wTake 42 ?_
  try simp only [Act.put, List.setIfInBounds_toArray, List.set_cons_zero, List.set_cons_succ]
  refine wpAnyH_done (by kernel_rfl) ?_ _
  refine NoPanic.normal ?_
  clear hHeld
  go_wp2
  go_ret
  exact ⟨by first | rfl | (simp; done), below_next0 B_49.out hbd6.out⟩
set_option maxHeartbeats 2000000 in
set_option maxRecDepth 100000 in
theorem spoil_any (tb : Nat) (t : AT) (m : Md) (ad : Option Addr) (c : Nat) (w : World) (hA : At w tb t m ad c) (hr : m.row.length ≤ 1000000) (hh : m.hap.length ≤ 1000000) (hks : ∀ x ∈ m.row, x.key.size ≤ 9223372036854775807) :
    Calls Try.prog 65 #[.pointer (some ⟨tb, 0, none⟩)] w fun e w' => ∃ v, e = .returned v ∧ Kb tb w w' := by
  have HA := Lib.hid hA
  have HKS := Lib.hid hks
  have lb : tb < w.heap.size := blk_lt hA.blk
  clear hA hks
  go_enter Try.func65, Try.ntmps65
  go_wp2_with fail
  refine (list_any tb t m ad c w HA.out ⟨#[]⟩ (by omega)).mono ?_
  rintro e w1 ⟨V, rfl, hR, hb⟩
  rw [listL_nil] at hR
  try dsimp only at hR
  have A1 := Lib.hid (HA.out.below hb)
  have B1 := Lib.hid hb
  have hsz := hb.size
  clear hb
  rcases Nat.eq_zero_or_pos m.row.length with hz | hz
  · obtain ⟨VA, Vc, rfl, _, _⟩ := Kd.R_reads hR
    rw [hz]
    clear hR
    have HZ := Lib.hid hz
    clear hz
    go_wp2_with fail
    go_loopw [3] (fun i wr => i = .int .i64 0 ∧ Hid (Below w1.heap.size w1 wr)) (fun i _ => 0 - (intOf i).toNat)
    case atStart => exact ⟨rfl, Lib.hid (Below.refl _ _)⟩
    case round =>
      obtain ⟨rfl, HB⟩ := hrel
      have A2 := Lib.hid (A1.out.below HB.out)
      go_wp2_with fail
      refine (rev_any tb t m ad c wr A2.out).mono ?_
      rintro e wx ⟨rfl, hb⟩
      have AX := Lib.hid (A2.out.below hb)
      have KX := Lib.hid (((Kb.of_below B1.out tb).then_below HB.out).then_below hb)
      clear hb
      go_wp2_with fail
      refine (cut_any tb t m ad c wx AX.out _ (by omega)).mono ?_
      rintro e wy ⟨ad8, c8, rfl, _, hK⟩
      go_wp2
      go_end0
      first | exact ⟨_, rfl, KX.out.trans hK⟩ | exact KX.out.trans hK | exact ⟨⟨_, rfl⟩, KX.out.trans hK⟩
  · obtain ⟨gq, cap, hv, hgb, hgl, cells, hcells⟩ := Kd.R_form hR hz
    obtain ⟨va, had⟩ : ∃ va : Addr, va = ⟨gq, 0, none⟩ := ⟨_, rfl⟩
    rw [← had] at hv
    subst hv
    obtain ⟨-, hcap, hC⟩ := Kd.R_reads' hR
    clear hR
    obtain ⟨n0, hn0⟩ : ∃ n0, m.row.length = n0 := ⟨_, rfl⟩
    have HC := Lib.hid hC
    have HG := Lib.hid hcells
    have HAD := Lib.hid had
    have HN0 := Lib.hid hn0
    clear hC hcells had
    rw [hn0] at hr hz hcap ⊢
    clear hn0
    go_wp2_with fail
    go_loopw [3] (fun i wr => ∃ (k : Nat) (tk : AT) (mk : Md) (adk : Option Addr) (ck : Nat) (L : List Ent) (cells : Array Value), k ≤ n0 ∧ i = .int .i64 k ∧ Hid (At wr tb tk mk adk ck) ∧ Hid (Kb tb w wr) ∧ Hid (Kd.C kEnt wr (some va) L.length L) ∧ L.length = n0 ∧ Hid (∀ x ∈ L, x.key.size ≤ 9223372036854775807) ∧ Hid (wr.heap[gq]? = some (.cells cells 62 (0, 0))) ∧ Hid (mk.row.length ≤ 1000000 + 8 * k ∧ mk.hap.length ≤ 1000000 + 8 * k) ∧ Hid (∀ a, adk = some a → 0 < mk.hap.length → a.block ≠ gq)) (fun i _ => n0 - (intOf i).toNat)
    case atStart => exact ⟨0, t, m, ad, c, m.row, cells, by omega, rfl, A1, Lib.hid (Kb.of_below B1.out tb), HC, HN0.out, HKS, HG, Lib.hid (by have := HN0.out; omega), Lib.hid (fun a ha hn => by have := hap_lt HA.out.hap a ha hn; omega)⟩
    case round =>
      obtain ⟨k, tk, mk, adk, ck, L, cells, hk, rfl, HAk, HKk, HCk, hL, HSk, HGk, HSM, HFk⟩ := hrel
      by_cases hlt : k < n0
      · have i0 : (0 : Int) ≤ (k : Int) := by omega
        have i1 : (k : Int) < (n0 : Int) := by omega
        have hlL : k < L.length := by omega
        obtain ⟨ab, e0, f0, f1, f2, f3⟩ := at_Ent HCk.out hlL
        cases e0
        have hks := HSk.out _ (List.getElem_mem hlL)
        obtain ⟨x, hx⟩ : ∃ x, L[k] = x := ⟨_, rfl⟩
        rw [hx] at f0 f1 f2 f3 hks
        have HX := Lib.hid hx
        clear hx
        go_wp2_with fail
        clear f0 f1 f2 f3
        obtain ⟨ob, hob⟩ : ∃ X, X = wr.heap.size := ⟨_, rfl⟩
        try rw [← hob]
        have hb : Below wr.heap.size wr (wr.alloc (.cells #[.bool true, .string x.key, .string ⟨#[]⟩] 85)) := below_alloc (Below.refl _ _) _
        have HOB := Lib.hid (show (wr.alloc (.cells #[.bool true, .string x.key, .string ⟨#[]⟩] 85)).heap[ob]? = some (.cells #[.bool true, .string x.key, .string ⟨#[]⟩] 85 (0, 0)) from hob ▸ heap_alloc_new wr (.cells #[.bool true, .string x.key, .string ⟨#[]⟩] 85))
        have A2 := Lib.hid (HAk.out.below hb)
        have K2 := Lib.hid (HKk.out.then_below hb)
        have C2 := Lib.hid (Kd.C_below HCk.out hb)
        have G2 := Lib.hid ((hb.block _ (blk_lt HGk.out)).trans HGk.out)
        have hsz2 := hb.size
        clear hb hob
        generalize wr.alloc (.cells #[.bool true, .string x.key, .string ⟨#[]⟩] 85) = w2 at *
        have hb8 := HSM.out
        have hcall := do_anyA tb tk mk adk ck w2 A2.out none 0 [] (some ⟨ob, 0, none⟩) 1 [⟨true, x.key, ⟨#[]⟩⟩] (Nat.le_refl _) (Kd.C_nil _ _) (Nat.le_refl _) (C_one (kOpn_mk _ ⟨true, x.key, ⟨#[]⟩⟩) HOB.out) ⟨fun x hx => (by cases hx), fun o ho => (by rcases List.mem_singleton.1 ho with rfl; exact hks)⟩ (by omega) (by omega)
        have hle := do_le (may := mayTx [] [⟨true, x.key, ⟨#[]⟩⟩]) (cs := []) (os := [⟨true, x.key, ⟨#[]⟩⟩]) (m := mk) (fun _ => by simp)
        obtain ⟨D, hD⟩ : ∃ D, doM (mayTx [] [⟨true, x.key, ⟨#[]⟩⟩]) [] [⟨true, x.key, ⟨#[]⟩⟩] mk = D := ⟨_, rfl⟩
        rw [hD] at hcall hle
        refine hcall.mono ?_
        clear hcall hD
        rintro e w3 ⟨V9, t9, ad9, c9, rfl, _, hA3, hK3, hap3, hfr3⟩
        have A3 := Lib.hid hA3
        have K3 := Lib.hid (K2.out.trans hK3)
        have C3 := Lib.hid (ent_kbT C2.out A2.out.blk hK3)
        have G3 := Lib.hid (hK3.blk G2.out (far_type A2.out.blk G2.out (by decide)))
        have hlg : gq < w2.heap.size := blk_lt G2.out
        have F3 := Lib.hid (show ∀ a, ad9 = some a → 0 < D.1.hap.length → a.block ≠ gq from fun a ha hn e => by (rcases hfr3 a ha hn with ⟨h, h5⟩ | h; exact HFk.out a (h.symm.trans ha) h5 e; omega))
        clear hA3 hK3 hap3 hfr3
        have HSM3 := Lib.hid (show D.1.row.length ≤ 1000000 + 8 * (k + 1) ∧ D.1.hap.length ≤ 1000000 + 8 * (k + 1) from by omega)
        clear hle hb8 hks
        obtain ⟨ab3, e0, f0, f1, f2, f3⟩ := at_Ent C3.out hlL
        cases e0
        clear f0 f2 f3
        have hPA : (⟨(va.add (k * 4)).block, (va.add (k * 4)).off + 1, none⟩ : Addr) = ⟨gq, (va.add (k * 4)).off + 1, none⟩ := by (rw [show (va.add (k * 4)).block = gq from by rw [HAD.out, add_plain]])
        have hfz : w3.frozen? ⟨(va.add (k * 4)).block, (va.add (k * 4)).off + 1, none⟩ = false := by (rw [hPA]; exact blk_frozen G3.out _)
        have A4 := Lib.hid (show At (w3.setCell ⟨(va.add (k * 4)).block, (va.add (k * 4)).off + 1, none⟩ (.string bSp)) tb t9 D.1 ad9 c9 from by rw [hPA]; exact A3.out.setRow G3.out (by decide) F3.out _ _)
        have K4 := Lib.hid (show Kb tb w (w3.setCell ⟨(va.add (k * 4)).block, (va.add (k * 4)).off + 1, none⟩ (.string bSp)) from K3.out.setNew (p := ⟨(va.add (k * 4)).block, (va.add (k * 4)).off + 1, none⟩) (by rw [hPA]; exact hgb) _)
        have C4 := Lib.hid (C_putE HAD.out C3.out hlL bSp)
        have G4 : ∃ cells, (w3.setCell ⟨(va.add (k * 4)).block, (va.add (k * 4)).off + 1, none⟩ (.string bSp)).heap[gq]? = some (.cells cells 62 (0, 0)) := by (rw [hPA]; exact ⟨_, blk_put G3.out _ _ rfl⟩)
        obtain ⟨cells4, hG4⟩ := G4
        have G4 := Lib.hid hG4
        clear hG4 hPA
        have S4 := Lib.hid (show ∀ y ∈ L.set k ⟨L[k].key, bSp, L[k].made, L[k].mod⟩, y.key.size ≤ 9223372036854775807 from fun y hy => by (rcases List.mem_or_eq_of_mem_set hy with h | rfl; exact HSk.out y h; exact HSk.out L[k] (List.getElem_mem hlL)))
        have hlS : (L.set k ⟨L[k].key, bSp, L[k].made, L[k].mod⟩).length = n0 := List.length_set.trans hL
        go_wp2
        go_roundw
        case rel => exact ⟨k + 1, t9, D.1, ad9, c9, _, cells4, by omega, by go_num, A4, K4, C4, hlS, S4, G4, HSM3, F3⟩
        case measure => simp [intOf]; omega
      · obtain rfl : k = n0 := by omega
        go_wp2_with fail
        refine (rev_any tb tk mk adk ck wr HAk.out).mono ?_
        rintro e wx ⟨rfl, hb⟩
        have AX := Lib.hid (HAk.out.below hb)
        have KX := Lib.hid (HKk.out.then_below hb)
        clear hb
        go_wp2_with fail
        refine (cut_any tb tk mk adk ck wx AX.out _ (by have := HSM.out.2; omega)).mono ?_
        rintro e wy ⟨ad8, c8, rfl, _, hK⟩
        go_wp2
        go_end0
        first | exact ⟨_, rfl, KX.out.trans hK⟩ | exact KX.out.trans hK | exact ⟨⟨_, rfl⟩, KX.out.trans hK⟩
end Go.Proofs.Ytobanhbjkomieaa.TA
