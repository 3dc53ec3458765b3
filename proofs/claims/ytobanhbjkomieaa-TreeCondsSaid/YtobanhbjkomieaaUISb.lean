import Derived.Test.YtobanhbjkomieaaUFSb
namespace Go.Proofs.Ytobanhbjkomieaa.TA
open Go Go.RowKit Go.Proofs.Ytobanhbjkomieaa.KP Go.Proofs.YtobanhbjkomieaaW.PrintWords Go.Proofs.YtobanhbjkomieaaW.PrintLast Go.Proofs.YtobanhbjkomieaaW.PrintMore
open Go.Proofs.Ytobanhbjkomieaa.RP (wTake wSkip wOne wpAnyH_cast below_next0)
set_option linter.unusedSimpArgs false
set_option linter.unusedVariables false
theorem Below.cell_alloc_ (W : World) (o : Obj) {a : Addr} (h : a.block < W.heap.size) : (W.alloc o).cell? a = W.cell? a := World.cell?_of_block (Below.heap_alloc W o _ h)
abbrev bUn : ByteArray := ⟨#[117, 110, 100, 101, 114]⟩
abbrev bCo : ByteArray := ⟨#[99, 111, 110, 100, 105, 116, 105, 111, 110, 115]⟩
theorem infoCnd : (Try.prog.info? 73).map (fun i => (i.zero, i.size, i.bytes)) = some (some (.agg #[.string ⟨#[]⟩, .int .i64 0]), 2, 24) := by kernel_rfl
theorem kCnd_mkM (w : World) (base : Nat) (ok : Nat → Prop) (x : Cnd) : kCnd.M w base ok x [.string x.key, .int .i64 x.mod] := ⟨[_], [_], rfl, rfl, rfl⟩
abbrev csOf (ks : List ByteArray) (row : List Ent) : List Cnd := ks.map fun q => ⟨q, (getD q row).mod⟩
abbrev uO : Opn := ⟨false, bUn, bCo⟩
theorem u64_bd (n : Int) : 0 ≤ IntKind.u64.wrap n := by
  unfold IntKind.wrap
  simp [IntKind.bits, IntKind.signed]
  try omega
theorem idx_nat (n : Int) (k : Nat) (h : 0 < k) (hs : k ≤ 1000000) : ∃ j : Nat, wrap64 ((IntKind.u64.wrap n).tmod (k : Int)) = (j : Int) ∧ j < k := by
  have h0 := u64_bd n
  generalize IntKind.u64.wrap n = m at *
  have h1 := Int.emod_nonneg m (show (k : Int) ≠ 0 by omega)
  have h2 := Int.emod_lt_of_pos m (show (0 : Int) < (k : Int) by omega)
  refine ⟨(m % (k : Int)).toNat, ?_, by omega⟩
  rw [Int.tmod_eq_emod_of_nonneg h0, Int.toNat_of_nonneg h1]
  generalize m % (k : Int) = q at *
  unfold wrap64
  omega
theorem kCnd_any {w : World} {x : Cnd} {cs : List Value} (w' : World) (h : kCnd.K w x cs) : kCnd.K w' x cs := by
  obtain ⟨_, _, rfl, rfl, rfl⟩ := h
  exact kCnd_mk w' x
theorem kCnd_MK (w : World) (base : Nat) (ok : Nat → Prop) (x : Cnd) (cs : List Value) (h : kCnd.K w x cs) : kCnd.M w base ok x cs := by
  obtain ⟨_, _, rfl, rfl, rfl⟩ := h
  exact kCnd_mkM w base ok x
theorem C_keepC {w w' : World} {A : Option Addr} {n : Nat} {l : List Cnd} (h : Kd.C kCnd w A n l) (hk : ∀ ad, A = some ad → 0 < n → w'.heap[ad.block]? = w.heap[ad.block]?) : Kd.C kCnd w' A n l := by
  obtain ⟨h1, h2, h3⟩ := h
  refine ⟨h1, h2, fun hn => ?_⟩
  obtain ⟨ad, e, hc⟩ := h3 hn
  refine ⟨ad, e, fun j p hp => ?_⟩
  obtain ⟨c, hl, hK, hu⟩ := hc j p hp
  exact ⟨c, hl, kCnd_any w' hK, fun i u hi => (World.cell?_of_block (a := ad.add (j * kCnd.sz + i)) (by rw [addb]; exact hk ad e hn)).trans (hu i u hi)⟩
theorem cell_plain {W : World} {a : Addr} {v : Value} (h : W.cell? a = some v) : W.cell? ⟨a.block, a.off, none⟩ = some v := by
  unfold World.cell? at h ⊢
  cases hb : W.heap[a.block]? with
  | none => rw [hb] at h; cases h
  | some o =>
    rw [hb] at h
    cases o with
    | cells c T z =>
      by_cases hs : a.spot.isSome = true
      · simp [hs] at h
      · simpa [hs, hb] using h
    | _ => cases h
theorem cnd_cell {W : World} {A : Option Addr} {l : List Cnd} (h : Kd.C kCnd W A l.length l) (a : Addr) (ha : A = some a) (hn : 0 < l.length) : ∃ j b, W.cell? ⟨a.block, j, none⟩ = some (.string b) := by
  obtain ⟨ad, e, hc, _⟩ := at_Cnd h hn
  obtain rfl : a = ad := Option.some.inj (ha.symm.trans e)
  have h2 := cell_plain hc
  rw [addb] at h2
  exact ⟨(a.add (0 * 2)).off, _, h2⟩
theorem cnd_lt {W : World} {A : Option Addr} {l : List Cnd} (h : Kd.C kCnd W A l.length l) (a : Addr) (ha : A = some a) (hn : 0 < l.length) : a.block < W.heap.size := by
  obtain ⟨j, b, hc⟩ := cnd_cell h a ha hn
  exact World.block_lt_of_cell? _ ⟨a.block, j, none⟩ hc
theorem cnd_kb {W W' : World} {A : Option Addr} {l : List Cnd} (h : Kd.C kCnd W A l.length l) {g : Nat} {t : AT} {m : Md} {ad : Option Addr} {c : Nat} {T : TypeId} (hg : W.heap[g]? = some (.cells (trC t m ad c) T (0, 0))) (hb : Kb g W W') : Kd.C kCnd W' A l.length l :=
  C_keepC h fun a ha hn => hb.block _ (cnd_lt h a ha hn) (by
    obtain ⟨j, b, hc⟩ := cnd_cell h a ha hn
    rintro rfl
    rw [blk_cell hg j] at hc
    match j, hc with
    | 0, hc => cases hc
    | 1, hc => cases hc
    | 2, hc => cases hc
    | 3, hc => cases hc
    | 4, hc => cases hc
    | j + 5, hc => simp at hc)
theorem cnd_kbT {W W' : World} {A : Option Addr} {l : List Cnd} (h : Kd.C kCnd W A l.length l) {b : Nat} {A0 A1 : Option Addr} {n0 n1 c0 c1 : Nat} {T : TypeId} (hg : W.heap[b]? = some (.cells #[.slice A0 n0 c0, .slice A1 n1 c1] T (0, 0))) (hb : Kb b W W') : Kd.C kCnd W' A l.length l :=
  C_keepC h fun a ha hn => hb.block _ (cnd_lt h a ha hn) (by
    obtain ⟨j, b, hc⟩ := cnd_cell h a ha hn
    rintro rfl
    rw [blk_cell hg j] at hc
    match j, hc with
    | 0, hc => cases hc
    | 1, hc => cases hc
    | j + 2, hc => simp at hc)
theorem At.kbTxn {W W' : World} {tb : Nat} {t : AT} {m : Md} {ad : Option Addr} {c : Nat} (h : At W tb t m ad c) {b : Nat} {A0 A1 : Option Addr} {n0 n1 c0 c1 : Nat} (hb : W.heap[b]? = some (.cells #[.slice A0 n0 c0, .slice A1 n1 c1] 34 (0, 0))) (hK : Kb b W W') : At W' tb t m ad c := by
  refine h.keepT (fun k cs T hT hk => hK.block k (blk_lt hk) ?_) (fun a ha hn => hK.block a.block (hap_lt h.hap a ha hn) ?_)
  · refine far_type hb hk ?_
    rcases hT with rfl | rfl <;> decide
  · obtain ⟨i, z, hc⟩ := hap_cell h.hap a ha hn
    intro e
    rw [e, blk_cell hb i] at hc
    match i, hc with
    | 0, hc => cases hc
    | 1, hc => cases hc
    | i + 2, hc => simp at hc
theorem C_putC {q : List Cnd} {W : World} {g : Nat} {ad : Addr} (had : ad = ⟨g, 0, none⟩) (hC : Kd.C kCnd W (some ad) q.length q) {j : Nat} (hj : j < q.length) (n : Int) :
    Kd.C kCnd (W.setCell ⟨(ad.add (j * 2)).block, (ad.add (j * 2)).off + 1, none⟩ (.int .i64 n)) (some ad) (q.set j ⟨q[j].key, n⟩).length (q.set j ⟨q[j].key, n⟩) := by
  subst had
  obtain ⟨h1, h2, h3⟩ := hC
  have hz : kCnd.sz = 2 := rfl
  rw [hz] at h3
  show ReadsRow _ kCnd.sz _ _ _ _
  rw [hz]
  refine ⟨rfl, by rw [List.length_set]; exact h2, fun hp => ?_⟩
  rw [List.length_set] at hp
  obtain ⟨ad, e, h⟩ := h3 hp
  cases e
  simp only [add_plain] at h ⊢
  refine ⟨_, rfl, fun i p hi => ?_⟩
  simp only [add_plain]
  have hil : i < q.length := by
    have := (List.getElem?_eq_some_iff.1 hi).1
    rwa [List.length_set] at this
  obtain ⟨cs, hcs, hK, hcell⟩ := h i q[i] (List.getElem?_eq_getElem hil)
  obtain ⟨_, _, rfl, rfl, rfl⟩ := hK
  rw [List.getElem?_set] at hi
  by_cases hij : j = i
  · subst hij
    rw [if_pos rfl, if_pos hj] at hi
    cases hi
    refine ⟨_, rfl, kCnd_mk _ _, fun r u hu => ?_⟩
    rcases r with _ | _ | r
    · rw [World.cell?_setCell_other _ _ _ _ (by simp)]
      exact hcell 0 u hu
    · have : u = .int .i64 n := by simpa using hu.symm
      subst this
      exact World.cell?_setCell_same _ _ _ (hcell 1 _ rfl)
    · simp at hu
  · rw [if_neg hij] at hi
    have hp' : p = q[i] := by rw [List.getElem?_eq_getElem hil] at hi; exact (Option.some.inj hi).symm
    subst hp'
    refine ⟨_, rfl, kCnd_mk _ _, fun r u hu => ?_⟩
    have hr : r < 2 := by
      have := (List.getElem?_eq_some_iff.1 hu).1
      simpa using this
    rw [World.cell?_setCell_other _ _ _ _ (by simp only [ne_eq, Addr.mk.injEq, not_and]; omega)]
    exact hcell r u hu
theorem R_noneC (w : World) (base : Nat) (hb : base ≤ w.heap.size) (ok : Nat → Prop) (hok : ok w.heap.size) : Kd.R kCnd 73 (w.alloc (.cells #[] 73)) base ok (.slice (some ⟨w.heap.size, 0, none⟩) 0 0) [] :=
  ⟨fun k hk => by simp [Value.ownBlock] at hk; subst hk; exact hok, OwnRow.lit w base (inner := []) (ps := []) ⟨rfl, fun j p hj => by simp at hj⟩ hb (by simp)⟩
theorem cond_does {M : Md} {n : Nat} (hg : Gr M n) (hn : n ≤ 500) {CS : List Cnd} (hh : holdsL CS M.row = true) (hm : mayTx CS [uO] = true) :
    (doM (mayTx CS [uO]) CS [uO] M).2.2.2 = 0 ∧ (doM (mayTx CS [uO]) CS [uO] M).2.2.1 = true ∧ ((doM (mayTx CS [uO]) CS [uO] M).2.1.length : Int) = 1 ∧ (doM (mayTx CS [uO]) CS [uO] M).1.rev = M.rev + 1 := by
  have hr := hg.rev
  rw [hm, do_ops hh (by simp) (by omega)]
  exact ⟨rfl, rfl, rfl, rfl⟩
theorem cond_not {M : Md} {n : Nat} (hg : Gr M n) (hn : n ≤ 500) {CS : List Cnd} (hh : holdsL CS M.row = true) (hm : mayTx CS [uO] = true) {j : Nat} (hj : j < CS.length) {other : Int} (ho : other ≠ CS[j].mod) :
    (doM (mayTx (CS.set j ⟨CS[j].key, other⟩) [uO]) (CS.set j ⟨CS[j].key, other⟩) [uO] M).1 = M ∧ (doM (mayTx (CS.set j ⟨CS[j].key, other⟩) [uO]) (CS.set j ⟨CS[j].key, other⟩) [uO] M).2.2.1 = false ∧ ((doM (mayTx (CS.set j ⟨CS[j].key, other⟩) [uO]) (CS.set j ⟨CS[j].key, other⟩) [uO] M).2.2.2 == 0) = decide (0 ≤ other ∧ other ≤ 1099511627776) ∧ holdsL (CS.set j ⟨CS[j].key, other⟩) M.row = false := by
  have hr := hg.rev
  have h1 := holds_set hj hh ho
  have h2 := may_set hj other hm
  rw [h2]
  unfold doM
  rw [h1]
  unfold mayR
  by_cases h : 0 ≤ other ∧ other ≤ 1099511627776 <;> simp [h]
set_option maxHeartbeats 16000000 in
set_option maxRecDepth 100000 in
theorem TreeConds_walk (A : Option Addr) (c : Nat) (l : List TxP) (A2 : Option Addr) (c2 : Nat) (ks : List ByteArray) (which other : Int) (w : World) (hc : l.length ≤ c) (hC : Kd.C PTr.k34 w A l.length l) (ok : (∀ x ∈ l, okX x) ∧ l.length ≤ maxLen)
    (hc2 : ks.length ≤ c2) (hC2 : Kd.C Kd.string w A2 ks.length ks) (ok2 : (∀ x ∈ ks, x.size ≤ maxLen) ∧ ks.length ≤ maxLen) (hwh : (Lit.int .i64 which).wf = true) (hot : (Lit.int .i64 other).wf = true) :
    Calls Try.prog 6 #[.slice A l.length c, .slice A2 ks.length c2, .int .i64 which, .int .i64 other] w fun e w' => e = .returned (.bool true) ∧ Below w.heap.size w w' := by
  obtain ⟨b, hb5, hw⟩ := wide_any l ok.2 ok.1
  have HC := Lib.hid hC
  have HX := Lib.hid ok.1
  have HW := Lib.hid hw
  have HC2 := Lib.hid hC2
  have HS2 := Lib.hid ok2.1
  have hkb : (ks.length : Int) ≤ 9223372036854775807 := by have := ok2.2; unfold maxLen at this; omega
  clear hC ok hw hC2 ok2
  cases b
  · have h5 := hb5 rfl
    clear hb5
    by_cases h8 : (8 : Int) < (ks.length : Int)
    · go_enter Try.func6, Try.ntmps6
      go_wp2_with fail
      refine (HW.out _ _ _ hc (Kd.C_below HC.out (Below.refl w.heap.size w))).mono ?_
      rintro e w1 ⟨rfl, hb⟩
      have B_1 := Lib.hid (below_next0 (Below.refl w.heap.size w) hb)
      clear hb
      go_wp2_with fail
      refine (treeAwake_any w1).mono ?_
      rintro e w2 ⟨rfl, hb⟩
      have B_2 := Lib.hid (below_next0 B_1.out hb)
      clear hb
      go_wp2
      go_ret
      exact ⟨rfl, B_2.out⟩
    · by_cases h0 : ks.length = 0
      · have e1 : ((ks.length : Int) == 0) = true := by (rw [h0]; rfl)
        clear h0 hkb
        go_enter Try.func6, Try.ntmps6
        go_wp2_with fail
        refine (HW.out _ _ _ hc (Kd.C_below HC.out (Below.refl w.heap.size w))).mono ?_
        rintro e w1 ⟨rfl, hb⟩
        have B_1 := Lib.hid (below_next0 (Below.refl w.heap.size w) hb)
        clear hb
        go_wp2_with fail
        refine (treeAwake_any w1).mono ?_
        rintro e w2 ⟨rfl, hb⟩
        have B_2 := Lib.hid (below_next0 B_1.out hb)
        clear hb
        go_wp2
        go_ret
        exact ⟨rfl, B_2.out⟩
      · have e1 : ((ks.length : Int) == 0) = false := beq_eq_false_iff_ne.2 (by omega)
        have hk8 : ks.length ≤ 8 := by omega
        have hk0 : 0 < ks.length := by omega
        clear h0 hkb
        obtain ⟨M, hM⟩ : ∃ M, run may (l.map toX) Md.new = M := ⟨_, rfl⟩
        have HM := Lib.hid hM
        have hg := gr_run (l.map toX)
        rw [hM, List.length_map] at hg
        have HGr := Lib.hid hg
        have hrv := hg.rev
        have hbM : M.row.length ≤ 100000000 ∧ M.hap.length ≤ 100000000 := by (have h1 := hg.row; have h2 := hg.hap; omega)
        clear hM hg
        have how := holds_own M.row ks
        obtain ⟨CS, hCS⟩ : ∃ CS, csOf ks M.row = CS := ⟨_, rfl⟩
        have hcl : CS.length = ks.length := by (rw [← hCS]; exact List.length_map _)
        rw [show (ks.map fun k => (⟨k, (getD k M.row).mod⟩ : Cnd)) = CS from hCS] at how
        have HOW := Lib.hid how
        have HSZ := Lib.hid (show (∀ x ∈ CS, x.key.size ≤ 9223372036854775807) ∧ ∀ x ∈ [uO], x.key.size ≤ 9223372036854775807 from ⟨fun x hx => by (rw [← hCS] at hx; obtain ⟨q, hq, rfl⟩ := List.mem_map.1 hx; exact HS2.out q hq), szO1 (by decide)⟩)
        have HCS := Lib.hid hCS
        clear hCS how
        have HL := Lib.hid hcl
        clear hcl
        go_enter Try.func6, Try.ntmps6
        go_wp2_with fail
        refine (HW.out _ _ _ hc (Kd.C_below HC.out (Below.refl w.heap.size w))).mono ?_
        rintro e w1 ⟨rfl, hb⟩
        have B_1 := Lib.hid (below_next0 (Below.refl w.heap.size w) hb)
        clear hb
        go_wp2_with fail
        refine (treeAwake_any w1).mono ?_
        rintro e w2 ⟨rfl, hb⟩
        have B_2 := Lib.hid (below_next0 B_1.out hb)
        clear hb
        clear e1
        go_wp2_with fail
        refine (grown_any A c l w2 hc (Kd.C_below HC.out B_2.out) HX.out h5).mono ?_
        rintro e w3 ⟨g, t_3, ad_4, c_5, rfl, hg, hA, hb⟩
        have Gg_6 := Lib.hid (Nat.le_trans B_2.out.size hg)
        have B_7 := Lib.hid (below_next0 B_2.out hb)
        rw [HM.out] at hA
        have Ag_8 := Lib.hid (hA)
        clear hg hA hb
        go_wp2_with fail
        refine (lput_any bUn bCo none 0 0 w3).mono ?_
        rintro e w4 ⟨p, rfl, _, hN, hb⟩
        have Ag_9 := Lib.hid (Ag_8.out.below hb)
        have B_10 := Lib.hid (below_next0 B_7.out hb)
        have Hp_11 := Lib.hid (hN)
        clear hN hb
        go_wp2_with fail
        obtain ⟨xb, hxb⟩ : ∃ X, X = w4.heap.size := ⟨_, rfl⟩
        try rw [← hxb]
        have Lxb := Lib.hid (show w.heap.size ≤ xb from hxb ▸ B_10.out.size)
        have hb : Below w4.heap.size w4 (w4.alloc (.cells #[.slice none 0 0, .slice (some ⟨p, 0, none⟩) 1 1] 34)) := below_alloc (Below.refl _ _) _
        have hN : (w4.alloc (.cells #[.slice none 0 0, .slice (some ⟨p, 0, none⟩) 1 1] 34)).heap[xb]? = some (.cells #[.slice none 0 0, .slice (some ⟨p, 0, none⟩) 1 1] 34 (0, 0)) := hxb ▸ heap_alloc_new w4 (.cells #[.slice none 0 0, .slice (some ⟨p, 0, none⟩) 1 1] 34)
        clear hxb
        generalize w4.alloc (.cells #[.slice none 0 0, .slice (some ⟨p, 0, none⟩) 1 1] 34) = w5 at *
        have Ag_12 := Lib.hid (Ag_9.out.below hb)
        have Hp_13 := Lib.hid ((hb.block _ (blk_lt Hp_11.out)).trans Hp_11.out)
        have B_14 := Lib.hid (below_next0 B_10.out hb)
        clear hb
        have Hxb_15 := Lib.hid (hN)
        clear hN
        have hxp : xb ≠ p := far_type Hp_13.out Hxb_15.out (by decide)
        have HW0 := Lib.hid B_14.out
        go_loopw [11] (fun i wr => ∃ (k : Nat) (cA : Option Addr) (cc : Nat), k ≤ ks.length ∧ i = .int .i64 k ∧ Hid (At wr g t_3 M ad_4 c_5) ∧ Hid (wr.heap[p]? = some (.cells #[.bool false, .string bUn, .string bCo] 85 (0, 0))) ∧ Hid (wr.heap[xb]? = some (.cells #[.slice cA k cc, .slice (some ⟨p, 0, none⟩) 1 1] 34 (0, 0))) ∧ Hid (kCnd.R 73 wr w5.heap.size (fun _ => True) (.slice cA k cc) (csOf (ks.take k) M.row)) ∧ Hid (Below w.heap.size w wr) ∧ Hid (w5.heap.size ≤ wr.heap.size)) (fun i _ => ks.length - (intOf i).toNat)
        case atStart => exact ⟨0, none, 0, by omega, rfl, Lib.hid Ag_12.out, Lib.hid Hp_13.out, Lib.hid Hxb_15.out, Lib.hid (Kd.R_nil _ _ _ _ _), Lib.hid B_14.out, Lib.hid (Nat.le_refl _)⟩
        case round =>
          obtain ⟨k, cA, cc, hk, rfl, HAg, HP1, HX1, HR1, HB, HZ⟩ := hrel
          by_cases hlt : k < ks.length
          · have i0 : (0 : Int) ≤ (k : Int) := by omega
            have i1 : (k : Int) < (ks.length : Int) := by omega
            obtain ⟨ak, e0, f0⟩ := at_Str (Kd.C_below HC2.out HB.out) hlt
            cases e0
            have HCO := Lib.hid (show csOf (ks.take (k + 1)) M.row = csOf (ks.take k) M.row ++ [(⟨ks[k], (getD ks[k] M.row).mod⟩ : Cnd)] from condOf_take M.row ks hlt)
            obtain ⟨qk, hK⟩ : ∃ qk, ks[k] = qk := ⟨_, rfl⟩
            rw [hK] at f0 HCO
            have HKK := Lib.hid hK
            clear hK
            by_cases hlen : (1000 : Int) < (qk.size : Int)
            · go_wp2
              go_ret
              exact ⟨rfl, HB.out⟩
            · go_wp2_with fail
              clear f0
              have hcall := treeGet_any g t_3 (M) ad_4 c_5 wr HAg.out qk
              obtain ⟨Y, hY⟩ : ∃ Y, getD qk M.row = Y := ⟨_, rfl⟩
              obtain ⟨bs, hbs⟩ : ∃ bs, (getL qk M.row).isSome = bs := ⟨_, rfl⟩
              rw [hY, hbs] at hcall
              have HY := Lib.hid hY
              have HGT := Lib.hid hcall
              clear hcall hY hbs
              refine HGT.out.mono ?_
              rintro e w6 ⟨rfl, hb⟩
              have Ag_16 := Lib.hid (HAg.out.below hb)
              have Hp_17 := Lib.hid ((hb.block _ (blk_lt HP1.out)).trans HP1.out)
              have Hxb_18 := Lib.hid ((hb.block _ (blk_lt HX1.out)).trans HX1.out)
              have Rc_19 := Lib.hid (Kd.R_below HR1.out hb)
              have Zz_20 := Lib.hid (Nat.le_trans HZ.out hb.size)
              have B_21 := Lib.hid (below_next0 HB.out hb)
              clear hb
              simp only [entV]
              go_wp2_with fail
              obtain ⟨yb, hyb⟩ : ∃ X, X = w6.heap.size := ⟨_, rfl⟩
              try rw [← hyb]
              have hb : Below w6.heap.size w6 (w6.alloc (.cells #[.string Y.key, .string Y.val, .int .i64 Y.made, .int .i64 Y.mod] 62)) := below_alloc (Below.refl _ _) _
              have hN : (w6.alloc (.cells #[.string Y.key, .string Y.val, .int .i64 Y.made, .int .i64 Y.mod] 62)).heap[yb]? = some (.cells #[.string Y.key, .string Y.val, .int .i64 Y.made, .int .i64 Y.mod] 62 (0, 0)) := hyb ▸ heap_alloc_new w6 (.cells #[.string Y.key, .string Y.val, .int .i64 Y.made, .int .i64 Y.mod] 62)
              clear hyb
              generalize w6.alloc (.cells #[.string Y.key, .string Y.val, .int .i64 Y.made, .int .i64 Y.mod] 62) = w7 at *
              have Ag_22 := Lib.hid (Ag_16.out.below hb)
              have Hp_23 := Lib.hid ((hb.block _ (blk_lt Hp_17.out)).trans Hp_17.out)
              have Hxb_24 := Lib.hid ((hb.block _ (blk_lt Hxb_18.out)).trans Hxb_18.out)
              have Rc_25 := Lib.hid (Kd.R_below Rc_19.out hb)
              have Zz_26 := Lib.hid (Nat.le_trans Zz_20.out hb.size)
              have B_27 := Lib.hid (below_next0 B_21.out hb)
              clear hb
              have Hyb_28 := Lib.hid (hN)
              clear hN
              obtain ⟨ak2, e0, f0⟩ := at_Str (Kd.C_below HC2.out B_27.out) hlt
              cases e0
              rw [HKK.out] at f0
              have hSB := Lib.hid (show ∀ W' : World, W'.cell? (ak.add k) = w7.cell? (ak.add k) → W'.heap[yb]? = w7.heap[yb]? → (fun W : World => W.cell? (ak.add k) = some (.string qk) ∧ W.cell? ⟨yb, 0, none⟩ = some (.string Y.key) ∧ W.cell? ⟨yb, 1, none⟩ = some (.string Y.val) ∧ W.cell? ⟨yb, 2, none⟩ = some (.int .i64 Y.made) ∧ W.cell? ⟨yb, 3, none⟩ = some (.int .i64 Y.mod)) W' from fun W' h1 h2 => ⟨h1.trans f0, (blk_cell (h2.trans Hyb_28.out) 0).trans rfl, (blk_cell (h2.trans Hyb_28.out) 1).trans rfl, (blk_cell (h2.trans Hyb_28.out) 2).trans rfl, (blk_cell (h2.trans Hyb_28.out) 3).trans rfl⟩)
              have lak : (ak.add k).block < w7.heap.size := World.block_lt_of_cell? _ _ f0
              refine wp_region_noPanic ?_
              refine wp_region_held_drew (S := fun W : World => W.cell? (ak.add k) = some (.string qk) ∧ W.cell? ⟨yb, 0, none⟩ = some (.string Y.key) ∧ W.cell? ⟨yb, 1, none⟩ = some (.string Y.val) ∧ W.cell? ⟨yb, 2, none⟩ = some (.int .i64 Y.made) ∧ W.cell? ⟨yb, 3, none⟩ = some (.int .i64 Y.mod)) (by kernel_rfl) (hSB.out _ rfl rfl) (fun hHeld => ?_)
              refine wTake 0 ?_
              refine wTake 2 ?_
              refine wTake 3 ?_
              refine wTake 4 ?_
              refine wTake 5 ?_
              refine wTake 6 ?_
              refine wTake 7 ?_
              refine wTake 8 ?_
              try simp only [Act.put, List.setIfInBounds_toArray, List.set_cons_zero, List.set_cons_succ]
              refine wpAnyH_ready (rs := [1, 9]) (by kernel_rfl) (by simp) (AllReadyH.cons rfl (fun K hK => ?_) (AllReadyH.cons rfl (fun K hK => ?_) AllReadyH.nil))
              · have zz := (blk_cell (show w7.drew.heap[xb]? = _ from Hxb_24.out) 0).trans rfl
                go_simp
                clear zz
                refine hK.out _ _ (hSB.out _ rfl rfl) (fun hHeld => ?_)
                clear hK K
                try simp only [Act.put, List.setIfInBounds_toArray, List.set_cons_zero, List.set_cons_succ]
                refine wpAnyH_ready (rs := [9]) (by kernel_rfl) (by simp) (AllReadyH.cons rfl (fun K hK => ?_) AllReadyH.nil)
                go_simp
                go_wp2_with fail
                refine hK.out _ _ (hSB.out _ (Below.cell_alloc_ _ _ lak) (Below.heap_alloc _ _ _ (blk_lt Hyb_28.out))) (fun hHeld => ?_)
                clear hK K
                try simp only [Act.put, List.setIfInBounds_toArray, List.set_cons_zero, List.set_cons_succ]
                refine wpAnyH_ready (rs := [10]) (by kernel_rfl) (by simp) (AllReadyH.cons rfl (fun K hK => ?_) AllReadyH.nil)
                refine Kd.R_append_step kCnd (w0 := w7.drew) w5.heap.size (by rfl) (.tmp 62) (.tmp 70) 31 73 (.agg #[.string ⟨#[]⟩, .int .i64 0]) 24 rfl Try.underlying31 infoCnd rfl (by decide) (by omega) _ (csOf (ks.take k) M.row) ⟨qk, Y.mod⟩ [.string qk, .int .i64 Y.mod] (fun _ => True) (fun _ => False) rfl rfl (kCnd_mkM _ _ _ _) (fun _ hk => hk.elim) (fun _ _ => trivial) (Kd.R_drew Rc_25.out) (Below.refl _ _) (show w5.heap.size ≤ w7.heap.size from Zz_26.out) (by rw [List.length_map, List.length_take]; omega) ?_
                intro v1 wz ho hb hg _
                have hty := Kd.R_typed (Kd.R_drew Rc_25.out)
                have hba := Kd.R_base (Kd.R_drew Rc_25.out)
                have far : ∀ (b : Nat) (cs : Array Value) (T : TypeId), T ≠ 73 → w7.drew.heap[b]? = some (.cells cs T (0, 0)) → some b ≠ (Value.slice cA k cc).ownBlock := fun b cs T hT hb0 e => by (obtain ⟨ds, hd⟩ := hty b e.symm; rw [hb0] at hd; injection hd with hd; injection hd with _ hd; exact hT hd)
                have A7 := Lib.hid (At.grownC (Ag_22.out.below (Below.refl _ _).drew) hg hty (fun a ha hn e => by have h3 := hba _ e.symm; have h4 := hap_lt Ag_12.out.hap a ha hn; omega))
                have HY7 := Lib.hid ((hg.block _ (blk_lt Hyb_28.out) (far _ _ _ (by decide) Hyb_28.out)).trans (show w7.drew.heap[yb]? = _ from Hyb_28.out))
                have HX7 := Lib.hid ((hg.block _ (blk_lt Hxb_24.out) (far _ _ _ (by decide) Hxb_24.out)).trans (show w7.drew.heap[xb]? = _ from Hxb_24.out))
                have HP7 := Lib.hid ((hg.block _ (blk_lt Hp_23.out) (far _ _ _ (by decide) Hp_23.out)).trans (show w7.drew.heap[p]? = _ from Hp_23.out))
                have B7 := Lib.hid ((below_drew B_27.out).grown hg B_27.out.size (fun k e => Nat.le_trans HW0.out.size (hba k e)))
                have Z7 := Lib.hid (Nat.le_trans Zz_26.out hb.size)
                have hl2 : (csOf (ks.take k) M.row ++ [(⟨qk, Y.mod⟩ : Cnd)]).length = k + 1 := by (rw [List.length_append, List.length_map, List.length_take, List.length_singleton]; omega)
                obtain ⟨cA2, cc2, rfl⟩ := Kd.R_slice ho
                rw [hl2] at ho
                try rw [hl2]
                have R7 := Lib.hid ho
                obtain ⟨ak3, e0, f7⟩ := at_Str (Kd.C_below HC2.out B7.out) hlt
                cases e0
                rw [HKK.out] at f7
                have hs7 : (fun W : World => W.cell? (ak.add k) = some (.string qk) ∧ W.cell? ⟨yb, 0, none⟩ = some (.string Y.key) ∧ W.cell? ⟨yb, 1, none⟩ = some (.string Y.val) ∧ W.cell? ⟨yb, 2, none⟩ = some (.int .i64 Y.made) ∧ W.cell? ⟨yb, 3, none⟩ = some (.int .i64 Y.mod)) wz := ⟨f7, (blk_cell HY7.out 0).trans rfl, (blk_cell HY7.out 1).trans rfl, (blk_cell HY7.out 2).trans rfl, (blk_cell HY7.out 3).trans rfl⟩
                clear ho hb hg hty hba far
                refine hK.out _ _ hs7 (fun hHeld => ?_)
                clear hK K
                try simp only [Act.put, List.setIfInBounds_toArray, List.set_cons_zero, List.set_cons_succ]
                refine wTake 11 ?_
                try simp only [Act.put, List.setIfInBounds_toArray, List.set_cons_zero, List.set_cons_succ]
                refine wpAnyH_ready (rs := [12]) (by kernel_rfl) (by simp) (AllReadyH.cons rfl (fun K hK => ?_) AllReadyH.nil)
                have zb := HX7.out
                have zf := blk_frozen zb 0
                have zz0 := (blk_cell zb 0).trans rfl
                have zz1 := (blk_cell zb 1).trans rfl
                go_simp
                clear zf zz0 zz1
                have A8 := Lib.hid (show At (wz.setCell ⟨xb, 0, none⟩ (.slice cA2 (k + 1) cc2)) g _ _ _ _ from At.setTxn A7.out zb 0 (.slice cA2 (k + 1) cc2))
                have HX8 := Lib.hid (show (wz.setCell ⟨xb, 0, none⟩ (.slice cA2 (k + 1) cc2)).heap[xb]? = _ from blk_put zb 0 (.slice cA2 (k + 1) cc2) rfl)
                have HP8 := Lib.hid (show (wz.setCell ⟨xb, 0, none⟩ (.slice cA2 (k + 1) cc2)).heap[p]? = _ from blk_far (p := ⟨xb, 0, none⟩) HP7.out hxp.symm (.slice cA2 (k + 1) cc2))
                have HY8 := Lib.hid (show (wz.setCell ⟨xb, 0, none⟩ (.slice cA2 (k + 1) cc2)).heap[yb]? = _ from blk_far (p := ⟨xb, 0, none⟩) HY7.out (far_type zb HY7.out (by decide)) (.slice cA2 (k + 1) cc2))
                have B8 := Lib.hid (show Below w.heap.size w (wz.setCell ⟨xb, 0, none⟩ (.slice cA2 (k + 1) cc2)) from B7.out.setCell (p := ⟨xb, 0, none⟩) Lxb.out (.slice cA2 (k + 1) cc2))
                have Z8 := Lib.hid (show w5.heap.size ≤ (wz.setCell ⟨xb, 0, none⟩ (.slice cA2 (k + 1) cc2)).heap.size from by simpa [World.setCell] using Z7.out)
                have R8 := Lib.hid (show kCnd.R 73 (wz.setCell ⟨xb, 0, none⟩ (.slice cA2 (k + 1) cc2)) w5.heap.size (fun _ => True) (.slice cA2 (k + 1) cc2) _ from Kd.R_set R7.out zb (by decide) 0 (.slice cA2 (k + 1) cc2))
                obtain ⟨ak4, e0, f8⟩ := at_Str (Kd.C_below HC2.out B8.out) hlt
                cases e0
                rw [HKK.out] at f8
                have hs8 : (fun W : World => W.cell? (ak.add k) = some (.string qk) ∧ W.cell? ⟨yb, 0, none⟩ = some (.string Y.key) ∧ W.cell? ⟨yb, 1, none⟩ = some (.string Y.val) ∧ W.cell? ⟨yb, 2, none⟩ = some (.int .i64 Y.made) ∧ W.cell? ⟨yb, 3, none⟩ = some (.int .i64 Y.mod)) (wz.setCell ⟨xb, 0, none⟩ (.slice cA2 (k + 1) cc2)) := ⟨f8, (blk_cell HY8.out 0).trans rfl, (blk_cell HY8.out 1).trans rfl, (blk_cell HY8.out 2).trans rfl, (blk_cell HY8.out 3).trans rfl⟩
                clear zb
                generalize (wz.setCell ⟨xb, 0, none⟩ (.slice cA2 (k + 1) cc2)) = w8 at *
                refine hK.out _ _ hs8 (fun hHeld => ?_)
                clear hK K
                try simp only [Act.put, List.setIfInBounds_toArray, List.set_cons_zero, List.set_cons_succ]
                refine wpAnyH_done (by kernel_rfl) ?_ _
                refine NoPanic.normal ?_
                clear hHeld
                go_wp2
                go_roundw
                case rel => exact ⟨k + 1, cA2, cc2, by omega, by go_num, A8, HP8, HX8, by rw [HCO.out, HY.out]; exact R8, B8, Z8⟩
                case measure => simp [intOf] <;> omega
              · go_simp
                go_wp2_with fail
                refine hK.out _ _ (hSB.out _ (Below.cell_alloc_ _ _ lak) (Below.heap_alloc _ _ _ (blk_lt Hyb_28.out))) (fun hHeld => ?_)
                clear hK K
                try simp only [Act.put, List.setIfInBounds_toArray, List.set_cons_zero, List.set_cons_succ]
                refine wpAnyH_ready (rs := [1]) (by kernel_rfl) (by simp) (AllReadyH.cons rfl (fun K hK => ?_) AllReadyH.nil)
                have zz := (blk_cell (blk_alloc (show w7.heap[xb]? = _ from Hxb_24.out) (.cells #[.string qk, .int .i64 Y.mod] 73)) 0).trans rfl
                go_simp
                clear zz
                refine hK.out _ _ (hSB.out _ (Below.cell_alloc_ _ _ lak) (Below.heap_alloc _ _ _ (blk_lt Hyb_28.out))) (fun hHeld => ?_)
                clear hK K
                try simp only [Act.put, List.setIfInBounds_toArray, List.set_cons_zero, List.set_cons_succ]
                refine wpAnyH_ready (rs := [10]) (by kernel_rfl) (by simp) (AllReadyH.cons rfl (fun K hK => ?_) AllReadyH.nil)
                refine Kd.R_append_step kCnd (w0 := w7.drew) w5.heap.size (by rfl) (.tmp 62) (.tmp 70) 31 73 (.agg #[.string ⟨#[]⟩, .int .i64 0]) 24 rfl Try.underlying31 infoCnd rfl (by decide) (by omega) _ (csOf (ks.take k) M.row) ⟨qk, Y.mod⟩ [.string qk, .int .i64 Y.mod] (fun _ => True) (fun _ => False) rfl rfl (kCnd_mkM _ _ _ _) (fun _ hk => hk.elim) (fun _ _ => trivial) (Kd.R_drew Rc_25.out) (Below.refl _ _) (show w5.heap.size ≤ w7.heap.size from Zz_26.out) (by rw [List.length_map, List.length_take]; omega) ?_
                intro v1 wz ho hb hg _
                have hty := Kd.R_typed (Kd.R_drew Rc_25.out)
                have hba := Kd.R_base (Kd.R_drew Rc_25.out)
                have far : ∀ (b : Nat) (cs : Array Value) (T : TypeId), T ≠ 73 → w7.drew.heap[b]? = some (.cells cs T (0, 0)) → some b ≠ (Value.slice cA k cc).ownBlock := fun b cs T hT hb0 e => by (obtain ⟨ds, hd⟩ := hty b e.symm; rw [hb0] at hd; injection hd with hd; injection hd with _ hd; exact hT hd)
                have A7 := Lib.hid (At.grownC (Ag_22.out.below (Below.refl _ _).drew) hg hty (fun a ha hn e => by have h3 := hba _ e.symm; have h4 := hap_lt Ag_12.out.hap a ha hn; omega))
                have HY7 := Lib.hid ((hg.block _ (blk_lt Hyb_28.out) (far _ _ _ (by decide) Hyb_28.out)).trans (show w7.drew.heap[yb]? = _ from Hyb_28.out))
                have HX7 := Lib.hid ((hg.block _ (blk_lt Hxb_24.out) (far _ _ _ (by decide) Hxb_24.out)).trans (show w7.drew.heap[xb]? = _ from Hxb_24.out))
                have HP7 := Lib.hid ((hg.block _ (blk_lt Hp_23.out) (far _ _ _ (by decide) Hp_23.out)).trans (show w7.drew.heap[p]? = _ from Hp_23.out))
                have B7 := Lib.hid ((below_drew B_27.out).grown hg B_27.out.size (fun k e => Nat.le_trans HW0.out.size (hba k e)))
                have Z7 := Lib.hid (Nat.le_trans Zz_26.out hb.size)
                have hl2 : (csOf (ks.take k) M.row ++ [(⟨qk, Y.mod⟩ : Cnd)]).length = k + 1 := by (rw [List.length_append, List.length_map, List.length_take, List.length_singleton]; omega)
                obtain ⟨cA2, cc2, rfl⟩ := Kd.R_slice ho
                rw [hl2] at ho
                try rw [hl2]
                have R7 := Lib.hid ho
                obtain ⟨ak3, e0, f7⟩ := at_Str (Kd.C_below HC2.out B7.out) hlt
                cases e0
                rw [HKK.out] at f7
                have hs7 : (fun W : World => W.cell? (ak.add k) = some (.string qk) ∧ W.cell? ⟨yb, 0, none⟩ = some (.string Y.key) ∧ W.cell? ⟨yb, 1, none⟩ = some (.string Y.val) ∧ W.cell? ⟨yb, 2, none⟩ = some (.int .i64 Y.made) ∧ W.cell? ⟨yb, 3, none⟩ = some (.int .i64 Y.mod)) wz := ⟨f7, (blk_cell HY7.out 0).trans rfl, (blk_cell HY7.out 1).trans rfl, (blk_cell HY7.out 2).trans rfl, (blk_cell HY7.out 3).trans rfl⟩
                clear ho hb hg hty hba far
                refine hK.out _ _ hs7 (fun hHeld => ?_)
                clear hK K
                try simp only [Act.put, List.setIfInBounds_toArray, List.set_cons_zero, List.set_cons_succ]
                refine wTake 11 ?_
                try simp only [Act.put, List.setIfInBounds_toArray, List.set_cons_zero, List.set_cons_succ]
                refine wpAnyH_ready (rs := [12]) (by kernel_rfl) (by simp) (AllReadyH.cons rfl (fun K hK => ?_) AllReadyH.nil)
                have zb := HX7.out
                have zf := blk_frozen zb 0
                have zz0 := (blk_cell zb 0).trans rfl
                have zz1 := (blk_cell zb 1).trans rfl
                go_simp
                clear zf zz0 zz1
                have A8 := Lib.hid (show At (wz.setCell ⟨xb, 0, none⟩ (.slice cA2 (k + 1) cc2)) g _ _ _ _ from At.setTxn A7.out zb 0 (.slice cA2 (k + 1) cc2))
                have HX8 := Lib.hid (show (wz.setCell ⟨xb, 0, none⟩ (.slice cA2 (k + 1) cc2)).heap[xb]? = _ from blk_put zb 0 (.slice cA2 (k + 1) cc2) rfl)
                have HP8 := Lib.hid (show (wz.setCell ⟨xb, 0, none⟩ (.slice cA2 (k + 1) cc2)).heap[p]? = _ from blk_far (p := ⟨xb, 0, none⟩) HP7.out hxp.symm (.slice cA2 (k + 1) cc2))
                have HY8 := Lib.hid (show (wz.setCell ⟨xb, 0, none⟩ (.slice cA2 (k + 1) cc2)).heap[yb]? = _ from blk_far (p := ⟨xb, 0, none⟩) HY7.out (far_type zb HY7.out (by decide)) (.slice cA2 (k + 1) cc2))
                have B8 := Lib.hid (show Below w.heap.size w (wz.setCell ⟨xb, 0, none⟩ (.slice cA2 (k + 1) cc2)) from B7.out.setCell (p := ⟨xb, 0, none⟩) Lxb.out (.slice cA2 (k + 1) cc2))
                have Z8 := Lib.hid (show w5.heap.size ≤ (wz.setCell ⟨xb, 0, none⟩ (.slice cA2 (k + 1) cc2)).heap.size from by simpa [World.setCell] using Z7.out)
                have R8 := Lib.hid (show kCnd.R 73 (wz.setCell ⟨xb, 0, none⟩ (.slice cA2 (k + 1) cc2)) w5.heap.size (fun _ => True) (.slice cA2 (k + 1) cc2) _ from Kd.R_set R7.out zb (by decide) 0 (.slice cA2 (k + 1) cc2))
                obtain ⟨ak4, e0, f8⟩ := at_Str (Kd.C_below HC2.out B8.out) hlt
                cases e0
                rw [HKK.out] at f8
                have hs8 : (fun W : World => W.cell? (ak.add k) = some (.string qk) ∧ W.cell? ⟨yb, 0, none⟩ = some (.string Y.key) ∧ W.cell? ⟨yb, 1, none⟩ = some (.string Y.val) ∧ W.cell? ⟨yb, 2, none⟩ = some (.int .i64 Y.made) ∧ W.cell? ⟨yb, 3, none⟩ = some (.int .i64 Y.mod)) (wz.setCell ⟨xb, 0, none⟩ (.slice cA2 (k + 1) cc2)) := ⟨f8, (blk_cell HY8.out 0).trans rfl, (blk_cell HY8.out 1).trans rfl, (blk_cell HY8.out 2).trans rfl, (blk_cell HY8.out 3).trans rfl⟩
                clear zb
                generalize (wz.setCell ⟨xb, 0, none⟩ (.slice cA2 (k + 1) cc2)) = w8 at *
                refine hK.out _ _ hs8 (fun hHeld => ?_)
                clear hK K
                try simp only [Act.put, List.setIfInBounds_toArray, List.set_cons_zero, List.set_cons_succ]
                refine wpAnyH_done (by kernel_rfl) ?_ _
                refine NoPanic.normal ?_
                clear hHeld
                go_wp2
                go_roundw
                case rel => exact ⟨k + 1, cA2, cc2, by omega, by go_num, A8, HP8, HX8, by rw [HCO.out, HY.out]; exact R8, B8, Z8⟩
                case measure => simp [intOf] <;> omega
          · obtain rfl : k = ks.length := by omega
            clear hk hlt
            have hR := HR1.out
            rw [List.take_length, HCS.out] at hR
            have e0 : ks.length = CS.length := HL.out.symm
            obtain ⟨-, hcc, hC⟩ := Kd.R_reads' hR
            clear hR HR1
            have HCX := Lib.hid (show Kd.C kCnd wr cA CS.length CS from hC)
            clear hC
            have hcc2 : CS.length ≤ cc := by omega
            rw [e0] at HX1 hcc
            clear e0
            obtain ⟨bm, hbm⟩ : ∃ b, mayTx CS [uO] = b := ⟨_, rfl⟩
            have zz0 := (blk_cell HX1.out 0).trans rfl
            have zz1 := (blk_cell HX1.out 1).trans rfl
            go_wp2_with fail
            clear zz0 zz1
            have hcall := mayTxn_all cA cc CS (some ⟨p, 0, none⟩) 1 [uO] wr hcc2 HCX.out (by decide) (C_one (kOpn_mk _ uO) HP1.out) HSZ.out
            rw [hbm] at hcall
            refine hcall.mono ?_
            clear hcall
            rintro e w6 ⟨rfl, hb⟩
            have Ag_16 := Lib.hid (HAg.out.below hb)
            have Cx_17 := Lib.hid (Kd.C_below HCX.out hb)
            have Hp_18 := Lib.hid ((hb.block _ (blk_lt HP1.out)).trans HP1.out)
            have Hxb_19 := Lib.hid ((hb.block _ (blk_lt HX1.out)).trans HX1.out)
            have B_20 := Lib.hid (below_next0 HB.out hb)
            clear hb
            cases bm
            · go_wp2
              go_ret
              exact ⟨rfl, B_20.out⟩
            · obtain ⟨j, hj, hjk⟩ := idx_nat which ks.length hk0 (by omega)
              have hwa : IntKind.u64.wrap (ks.length : Int) = ks.length := by (rw [IntKind.wrap_u64]; omega)
              have hj0 : (ks.length : Int) ≠ 0 := by omega
              have zz0 := (blk_cell Hxb_19.out 0).trans rfl
              have zz1 := (blk_cell Hxb_19.out 1).trans rfl
              have hsz : (w6.alloc (.cells #[.slice cA CS.length cc, .slice (some ⟨p, 0, none⟩) 1 1] 34)).heap.size = w6.heap.size + 1 := by simp
              have hbZ : Below w6.heap.size w6 (w6.alloc (.cells #[.slice cA CS.length cc, .slice (some ⟨p, 0, none⟩) 1 1] 34)) := below_alloc (Below.refl _ _) _
              have hbE := below_alloc (Below.refl (w6.alloc (.cells #[.slice cA CS.length cc, .slice (some ⟨p, 0, none⟩) 1 1] 34)).heap.size (w6.alloc (.cells #[.slice cA CS.length cc, .slice (some ⟨p, 0, none⟩) 1 1] 34))) (.cells #[] 73)
              have hR0 := R_noneC (w6.alloc (.cells #[.slice cA CS.length cc, .slice (some ⟨p, 0, none⟩) 1 1] 34)) (w6.alloc (.cells #[.slice cA CS.length cc, .slice (some ⟨p, 0, none⟩) 1 1] 34)).heap.size (Nat.le_refl _) (fun _ => True) trivial
              have HCE := Lib.hid (Kd.C_below (Kd.C_below Cx_17.out hbZ) hbE)
              have zz2 := (Below.cell_alloc_ (w6.alloc (.cells #[.slice cA CS.length cc, .slice (some ⟨p, 0, none⟩) 1 1] 34)) (.cells #[] 73) (a := ⟨xb, 0, none⟩) (Nat.lt_of_lt_of_le (blk_lt Hxb_19.out) hbZ.size)).trans ((Below.cell_alloc_ w6 (.cells #[.slice cA CS.length cc, .slice (some ⟨p, 0, none⟩) 1 1] 34) (a := ⟨xb, 0, none⟩) (blk_lt Hxb_19.out)).trans zz0)
              have hbS := Lib.hid hbE.size
              rw [hsz] at hbE hR0
              have HBE := Lib.hid hbE
              have HR0 := Lib.hid hR0
              have HSZ2 := Lib.hid hsz
              clear hbE hR0 hsz hbZ
              go_wp2_with (at_builtin; refine Kd.R_append_rows kCnd (w0 := (w6.alloc (.cells #[.slice cA CS.length cc, .slice (some ⟨p, 0, none⟩) 1 1] 34))) (w6.heap.size + 1) rfl _ _ 31 73 _ 24 rfl Try.underlying31 infoCnd rfl (by decide) (by decide) (.slice (some ⟨w6.heap.size + 1, 0, none⟩) 0 0) [] CS cA CS.length cc (fun _ => True) (fun _ => False) rfl rfl HR0.out HCE.out (kCnd_MK _ _ _) (fun k h => h.elim) (fun _ _ => trivial) HBE.out (by rw [← HSZ2.out]; exact hbS.out) (by have := HL.out; simp; omega) ?_; intro v wv hR hB hG hO; refine Go.RowKit.Hid.out ?_)
              refine Lib.hid ?_
              clear zz0 zz1 zz2 HBE HR0 HCE hbS hG hO
              have lxb : xb < w6.heap.size := blk_lt Hxb_19.out
              obtain ⟨zb, hzb⟩ : ∃ X, X = w6.heap.size := ⟨_, rfl⟩
              try rw [← hzb]
              have Lzb := Lib.hid (show w.heap.size ≤ zb from hzb ▸ B_20.out.size)
              have hb : Below w6.heap.size w6 (w6.alloc (.cells #[.slice cA CS.length cc, .slice (some ⟨p, 0, none⟩) 1 1] 34)) := below_alloc (Below.refl _ _) _
              have hN : (w6.alloc (.cells #[.slice cA CS.length cc, .slice (some ⟨p, 0, none⟩) 1 1] 34)).heap[zb]? = some (.cells #[.slice cA CS.length cc, .slice (some ⟨p, 0, none⟩) 1 1] 34 (0, 0)) := hzb ▸ heap_alloc_new w6 (.cells #[.slice cA CS.length cc, .slice (some ⟨p, 0, none⟩) 1 1] 34)
              generalize w6.alloc (.cells #[.slice cA CS.length cc, .slice (some ⟨p, 0, none⟩) 1 1] 34) = w7 at *
              have Ag_21 := Lib.hid (Ag_16.out.below hb)
              have Cx_22 := Lib.hid (Kd.C_below Cx_17.out hb)
              have Hp_23 := Lib.hid ((hb.block _ (blk_lt Hp_18.out)).trans Hp_18.out)
              have Hxb_24 := Lib.hid ((hb.block _ (blk_lt Hxb_19.out)).trans Hxb_19.out)
              have B_25 := Lib.hid (below_next0 B_20.out hb)
              clear hb
              have Hzb_26 := Lib.hid (hN)
              clear hN
              have hS7 := HSZ2.out
              have nxz : xb ≠ zb := by omega
              clear lxb hzb
              rw [← hS7] at hR hB
              rw [List.nil_append] at hR
              have hjc : j < CS.length := by (have := HL.out; omega)
              have hc0 : 0 < CS.length := by omega
              obtain ⟨gq, cap, hv, hgb, hgl, cells, hcells⟩ := Kd.R_form hR hc0
              obtain ⟨ad, had⟩ : ∃ ad : Addr, ad = ⟨gq, 0, none⟩ := ⟨_, rfl⟩
              rw [← had] at hv
              subst hv
              obtain ⟨-, hcap, hCz⟩ := Kd.R_reads' hR
              clear hR hS7 HSZ2
              have HZBv := Lib.hid ((hB.block zb (blk_lt Hzb_26.out)).trans Hzb_26.out)
              have hgz : gq ≠ zb := by (have := blk_lt Hzb_26.out; omega)
              have hK1 : Kb zb wv (wv.setCell ⟨zb, 0, none⟩ (.slice (some ad) CS.length cap)) := (Kb.refl zb wv).set 0 _
              have hC2 : Kd.C kCnd (wv.setCell ⟨zb, 0, none⟩ (.slice (some ad) CS.length cap)) (some ad) CS.length CS := cnd_kbT hCz HZBv.out hK1
              have hg2 : (wv.setCell ⟨zb, 0, none⟩ (.slice (some ad) CS.length cap)).heap[gq]? = _ := (Below.heap_setCell wv ⟨zb, 0, none⟩ (.slice (some ad) CS.length cap) gq hgz).trans hcells
              have hbk : (ad.add (j * 2)).block = gq := by (rw [had, add_plain])
              have hfz : (wv.setCell ⟨zb, 0, none⟩ (.slice (some ad) CS.length cap)).frozen? ⟨(ad.add (j * 2)).block, (ad.add (j * 2)).off + 1, none⟩ = false := by (rw [show ⟨(ad.add (j * 2)).block, (ad.add (j * 2)).off + 1, none⟩ = (⟨gq, (ad.add (j * 2)).off + 1, none⟩ : Addr) from by rw [hbk]]; exact blk_frozen hg2 _)
              obtain ⟨adx, e0, fx0, fx1⟩ := at_Cnd hC2 hjc
              cases e0
              have zf := blk_frozen HZBv.out 0
              have zz0 := (blk_cell HZBv.out 0).trans rfl
              have zz1 := (blk_cell HZBv.out 1).trans rfl
              have q0 : (wv.setCell ⟨zb, 0, none⟩ (.slice (some ad) CS.length cap)).cell? ⟨zb, 0, none⟩ = some (.slice (some ad) CS.length cap) := World.cell?_setCell_same _ _ _ zz0
              have i0 : (0 : Int) ≤ (j : Int) := by omega
              have i1 : (j : Int) < (CS.length : Int) := by omega
              have hK := ((Kb.of_below hB zb).set 0 (.slice (some ad) CS.length cap)).setNew (p := ⟨(ad.add (j * 2)).block, (ad.add (j * 2)).off + 1, none⟩) (by rw [hbk]; exact hgb) (.int .i64 other)
              have hCz3 := C_putC had hC2 hjc other
              have hZ3 : ((wv.setCell ⟨zb, 0, none⟩ (.slice (some ad) CS.length cap)).setCell ⟨(ad.add (j * 2)).block, (ad.add (j * 2)).off + 1, none⟩ (.int .i64 other)).heap[zb]? = some (.cells #[.slice (some ad) CS.length cap, .slice (some ⟨p, 0, none⟩) 1 1] 34 (0, 0)) := (Below.heap_setCell (wv.setCell ⟨zb, 0, none⟩ (.slice (some ad) CS.length cap)) ⟨(ad.add (j * 2)).block, (ad.add (j * 2)).off + 1, none⟩ (.int .i64 other) zb (by rw [hbk]; exact hgz.symm)).trans (blk_put HZBv.out 0 (.slice (some ad) CS.length cap) rfl)
              have HK := Lib.hid hK
              have HCZ3 := Lib.hid hCz3
              have HZ3 := Lib.hid hZ3
              clear hK hCz3 hZ3 hg2 hC2 hK1 hcells fx0 hCz hbk hgz hgb hgl hB had
              go_wp2_with fail
              clear zf zz0 zz1 q0 hfz fx1
              have hK := HK.out
              have hl2 : (CS.set j ⟨CS[j].key, other⟩).length = CS.length := List.length_set
              have hzb9 : ((wv.setCell ⟨zb, 0, none⟩ (.slice (some ad) CS.length cap)).setCell ⟨(ad.add (j * 2)).block, (ad.add (j * 2)).off + 1, none⟩ (.int .i64 other)).heap[zb]? = some (.cells #[.slice (some ad) (CS.set j ⟨CS[j].key, other⟩).length cap, .slice (some ⟨p, 0, none⟩) 1 1] 34 (0, 0)) := by (rw [hl2]; exact HZ3.out)
              have hcap2 : (CS.set j ⟨CS[j].key, other⟩).length ≤ cap := by (rw [hl2]; exact hcap)
              have Ag_27 := Lib.hid (At.kbTxn Ag_21.out Hzb_26.out hK)
              have Cx_28 := Lib.hid (cnd_kbT Cx_22.out Hzb_26.out hK)
              have Hp_29 := Lib.hid (hK.blk Hp_23.out (far_type Hzb_26.out Hp_23.out (by decide)))
              have Hxb_30 := Lib.hid (hK.blk Hxb_24.out nxz)
              have Hzb_31 := Lib.hid (hzb9)
              have Cz_32 := Lib.hid (HCZ3.out)
              have B_33 := Lib.hid (Kb.below B_25.out hK Lzb.out B_25.out.size)
              clear hK hl2 hzb9 HK HCZ3 HZ3 HZBv
              generalize ((wv.setCell ⟨zb, 0, none⟩ (.slice (some ad) CS.length cap)).setCell ⟨(ad.add (j * 2)).block, (ad.add (j * 2)).off + 1, none⟩ (.int .i64 other)) = w9 at *
              have hcd := fun h => cond_does HGr.out (by omega) HOW.out h
              have hcn := fun h => cond_not HGr.out (by omega) HOW.out h hjc (other := other)
              have hcm := hcd hbm
              have hcn2 := hcn hbm
              have HCD := Lib.hid hcm
              have HCN := Lib.hid hcn2
              clear hcd hcn hcm hcn2
              have hsz2 : (∀ x ∈ CS.set j ⟨CS[j].key, other⟩, x.key.size ≤ 9223372036854775807) ∧ ∀ x ∈ [uO], x.key.size ≤ 9223372036854775807 := ⟨fun x hx => by (rcases List.mem_or_eq_of_mem_set hx with h | rfl; exact HSZ.out.1 x h; exact HSZ.out.1 CS[j] (List.getElem_mem hjc)), HSZ.out.2⟩
              have HSZ3 := Lib.hid hsz2
              clear hsz2
              refine (copy_any g t_3 (M) ad_4 c_5 w9 Ag_27.out).mono ?_
              rintro e w8 ⟨s, rfl, hg, hA, hb⟩
              have Gs_34 := Lib.hid (Nat.le_trans B_33.out.size hg)
              have N_35 := Lib.hid (show s ≠ g from by have := blk_lt Ag_27.out.blk; omega)
              have Ag_36 := Lib.hid (Ag_27.out.below hb)
              have Cx_37 := Lib.hid (Kd.C_below Cx_28.out hb)
              have Cz_38 := Lib.hid (Kd.C_below Cz_32.out hb)
              have Hp_39 := Lib.hid ((hb.block _ (blk_lt Hp_29.out)).trans Hp_29.out)
              have Hxb_40 := Lib.hid ((hb.block _ (blk_lt Hxb_30.out)).trans Hxb_30.out)
              have Hzb_41 := Lib.hid ((hb.block _ (blk_lt Hzb_31.out)).trans Hzb_31.out)
              have B_42 := Lib.hid (below_next0 B_33.out hb)
              have As_43 := Lib.hid (hA)
              clear hg hA hb
              by_cases ho : other = CS[j].mod
              · have hsm : CS.set j ⟨CS[j].key, other⟩ = CS := by (rw [ho]; exact set_same hjc)
                have hzq := Hzb_41.out
                have hcq := Cz_38.out
                rw [hsm] at hzq hcq hcap2
                have HO := Lib.hid ho
                clear hsm ho
                have Hzb_44 := Lib.hid (hzq)
                have Cz_45 := Lib.hid (hcq)
                clear hzq hcq
                have zz0 := (blk_cell Hzb_44.out 0).trans rfl
                have zz1 := (blk_cell Hzb_44.out 1).trans rfl
                go_wp2_with fail
                clear zz0 zz1
                have hcall := do_any g t_3 (M) ad_4 c_5 w8 Ag_36.out (some ad) cap CS (some ⟨p, 0, none⟩) 1 [uO] hcap2 Cz_45.out (by decide) (C_one (kOpn_mk _ uO) Hp_39.out) HSZ.out hbM.1 hbM.2
                rw [HCD.out.1, HCD.out.2.1] at hcall
                refine hcall.mono ?_
                clear hcall
                rintro e w9 ⟨V9, t9, ad9, c9, rfl, _, hA, hK⟩
                have As_46 := Lib.hid (As_43.out.kb Ag_36.out.blk N_35.out hK)
                have Cx_47 := Lib.hid (cnd_kb Cx_37.out Ag_36.out.blk hK)
                have Cz_48 := Lib.hid (cnd_kb Cz_45.out Ag_36.out.blk hK)
                have Hp_49 := Lib.hid (hK.blk Hp_39.out (far_type Ag_36.out.blk Hp_39.out (by decide)))
                have Hxb_50 := Lib.hid (hK.blk Hxb_40.out (far_type Ag_36.out.blk Hxb_40.out (by decide)))
                have Hzb_51 := Lib.hid (hK.blk Hzb_44.out (far_type Ag_36.out.blk Hzb_44.out (by decide)))
                have B_52 := Lib.hid (Kb.below B_42.out hK Gg_6.out B_42.out.size)
                have Ag_53 := Lib.hid (hA)
                clear hA hK
                obtain ⟨adx, e0, g0, g1⟩ := at_Cnd Cx_47.out hjc
                cases e0
                have zz0 := (blk_cell Hxb_50.out 0).trans rfl
                have zz1 := (blk_cell Hxb_50.out 1).trans rfl
                rw [← HO.out] at g1
                clear g0
                go_wp2
                go_ret
                exact ⟨by first | rfl | (simp; done), B_52.out⟩
              · obtain ⟨c1, c2_, c3, c4⟩ := HCN.out ho
                obtain ⟨CS2, hCS2⟩ : ∃ CS2, CS.set j ⟨CS[j].key, other⟩ = CS2 := ⟨_, rfl⟩
                obtain ⟨cm, hcmm⟩ : ∃ cm, CS[j].mod = cm := ⟨_, rfl⟩
                have hzq := Hzb_41.out
                have hcq := Cz_38.out
                have hcl8 : CS2.length ≤ 8 ∧ CS.length ≤ 8 := by (have := HL.out; have h2 : CS2.length = CS.length := (congrArg List.length hCS2.symm).trans List.length_set; omega)
                have hw : wrap64 (M.rev + 1) = M.rev + 1 := by (unfold wrap64; omega)
                rw [hCS2] at c1 c2_ c3 c4 hzq hcq hcap2 HSZ3
                obtain ⟨er, her⟩ : ∃ er, (doM (mayTx CS2 [uO]) CS2 [uO] M).2.2.2 = er := ⟨_, rfl⟩
                rw [her] at c3
                have k5 : (other == cm) = false := by (rw [← hcmm]; exact beq_eq_false_iff_ne.2 ho)
                have HCM := Lib.hid hcmm
                have C1 := Lib.hid c1
                have C2 := Lib.hid c2_
                have C4 := Lib.hid c4
                have HER := Lib.hid her
                clear c1 c2_ c4 her hCS2 hcmm ho HCN
                have Hzb_44 := Lib.hid (hzq)
                have Cz_45 := Lib.hid (hcq)
                clear hzq hcq
                have zz0 := (blk_cell Hzb_44.out 0).trans rfl
                have zz1 := (blk_cell Hzb_44.out 1).trans rfl
                go_wp2_with fail
                clear zz0 zz1
                have hcall := do_any g t_3 (M) ad_4 c_5 w8 Ag_36.out (some ad) cap CS2 (some ⟨p, 0, none⟩) 1 [uO] hcap2 Cz_45.out (by decide) (C_one (kOpn_mk _ uO) Hp_39.out) HSZ3.out hbM.1 hbM.2
                rw [C2.out, HER.out] at hcall
                refine hcall.mono ?_
                clear hcall
                rintro e w9 ⟨V9, t9, ad9, c9, rfl, _, hA, hK⟩
                have As_46 := Lib.hid (As_43.out.kb Ag_36.out.blk N_35.out hK)
                have Cx_47 := Lib.hid (cnd_kb Cx_37.out Ag_36.out.blk hK)
                have Cz_48 := Lib.hid (cnd_kb Cz_45.out Ag_36.out.blk hK)
                have Hp_49 := Lib.hid (hK.blk Hp_39.out (far_type Ag_36.out.blk Hp_39.out (by decide)))
                have Hxb_50 := Lib.hid (hK.blk Hxb_40.out (far_type Ag_36.out.blk Hxb_40.out (by decide)))
                have Hzb_51 := Lib.hid (hK.blk Hzb_44.out (far_type Ag_36.out.blk Hzb_44.out (by decide)))
                have B_52 := Lib.hid (Kb.below B_42.out hK Gg_6.out B_42.out.size)
                rw [C1.out] at hA
                have Ag_53 := Lib.hid (hA)
                clear hA hK
                have hbM2 : (M.row.length ≤ 1000000000 ∧ M.row.length ≤ 1000000000) ∧ (M.hap.length ≤ 1000000000 ∧ M.hap.length ≤ 1000000000) := by omega
                by_cases d1 : 0 ≤ other
                · by_cases d2 : other ≤ 1099511627776
                  · have k4 : (er == 0) = true := by (rw [c3]; simp [d1, d2])
                    clear c3
                    obtain ⟨adx, e0, g0, g1⟩ := at_Cnd Cx_47.out hjc
                    cases e0
                    rw [HCM.out] at g1
                    have zz0 := (blk_cell Hxb_50.out 0).trans rfl
                    have zz1 := (blk_cell Hxb_50.out 1).trans rfl
                    go_wp2_with fail
                    clear zz0 zz1 g0 g1 k5
                    have hcall := same_any s t_3 (M) ad_4 c_5 g t9 (M) ad9 c9 w9 As_46.out Ag_53.out hbM2.1 hbM2.2
                    rw [sameM_self] at hcall
                    refine hcall.mono ?_
                    clear hcall
                    rintro e w10 ⟨rfl, hb⟩
                    have Ag_54 := Lib.hid (Ag_53.out.below hb)
                    have As_55 := Lib.hid (As_46.out.below hb)
                    have Cx_56 := Lib.hid (Kd.C_below Cx_47.out hb)
                    have Cz_57 := Lib.hid (Kd.C_below Cz_48.out hb)
                    have Hp_58 := Lib.hid ((hb.block _ (blk_lt Hp_49.out)).trans Hp_49.out)
                    have Hxb_59 := Lib.hid ((hb.block _ (blk_lt Hxb_50.out)).trans Hxb_50.out)
                    have Hzb_60 := Lib.hid ((hb.block _ (blk_lt Hzb_51.out)).trans Hzb_51.out)
                    have B_61 := Lib.hid (below_next0 B_52.out hb)
                    clear hb
                    have zz0 := (blk_cell Hzb_60.out 0).trans rfl
                    have zz1 := (blk_cell Hzb_60.out 1).trans rfl
                    go_wp2_with fail
                    clear zz0 zz1
                    have hcall := holds_any g t9 (M) ad9 c9 w10 Ag_54.out (some ad) cap CS2 hcap2 Cz_57.out (by omega)
                    rw [C4.out] at hcall
                    refine hcall.mono ?_
                    clear hcall
                    rintro e w11 ⟨rfl, hb⟩
                    have Ag_62 := Lib.hid (Ag_54.out.below hb)
                    have As_63 := Lib.hid (As_55.out.below hb)
                    have Cx_64 := Lib.hid (Kd.C_below Cx_56.out hb)
                    have Cz_65 := Lib.hid (Kd.C_below Cz_57.out hb)
                    have Hp_66 := Lib.hid ((hb.block _ (blk_lt Hp_58.out)).trans Hp_58.out)
                    have Hxb_67 := Lib.hid ((hb.block _ (blk_lt Hxb_59.out)).trans Hxb_59.out)
                    have Hzb_68 := Lib.hid ((hb.block _ (blk_lt Hzb_60.out)).trans Hzb_60.out)
                    have B_69 := Lib.hid (below_next0 B_61.out hb)
                    clear hb
                    have zz0 := (blk_cell Hxb_67.out 0).trans rfl
                    have zz1 := (blk_cell Hxb_67.out 1).trans rfl
                    go_wp2_with fail
                    clear zz0 zz1
                    have hcall := holds_any g t9 (M) ad9 c9 w11 Ag_62.out (some adx) cc CS hcc2 Cx_64.out (by omega)
                    rw [HOW.out] at hcall
                    refine hcall.mono ?_
                    clear hcall
                    rintro e w12 ⟨rfl, hb⟩
                    have Ag_70 := Lib.hid (Ag_62.out.below hb)
                    have As_71 := Lib.hid (As_63.out.below hb)
                    have Cx_72 := Lib.hid (Kd.C_below Cx_64.out hb)
                    have Cz_73 := Lib.hid (Kd.C_below Cz_65.out hb)
                    have Hp_74 := Lib.hid ((hb.block _ (blk_lt Hp_66.out)).trans Hp_66.out)
                    have Hxb_75 := Lib.hid ((hb.block _ (blk_lt Hxb_67.out)).trans Hxb_67.out)
                    have Hzb_76 := Lib.hid ((hb.block _ (blk_lt Hzb_68.out)).trans Hzb_68.out)
                    have B_77 := Lib.hid (below_next0 B_69.out hb)
                    clear hb
                    go_wp2_with fail
                    refine wp_region_noPanic ?_
                    refine wp_region_held_drew (S := fun W => W.cell? ⟨xb, 0, none⟩ = some (.slice (some adx) CS.length cc) ∧ W.cell? ⟨xb, 1, none⟩ = some (.slice (some ⟨p, 0, none⟩) 1 1)) (by kernel_rfl) (⟨(blk_cell (show w12.drew.heap[xb]? = _ from Hxb_75.out) 0).trans rfl, (blk_cell (show w12.drew.heap[xb]? = _ from Hxb_75.out) 1).trans rfl⟩) (fun hHeld => ?_)
                    have hbd0 := Lib.hid ((Below.refl w12.heap.size w12).drew)
                    refine wTake 0 ?_
                    refine wTake 1 ?_
                    refine wTake 2 ?_
                    try simp only [Act.put, List.setIfInBounds_toArray, List.set_cons_zero, List.set_cons_succ]
                    refine wpAnyH_ready (rs := [3]) (by kernel_rfl) (by simp) (AllReadyH.cons rfl (fun K hK => ?_) AllReadyH.nil)
                    go_simp
                    refine (rev_any s t_3 (M) ad_4 c_5 w12.drew (As_71.out.below hbd0.out)).mono ?_
                    rintro e w13 ⟨rfl, hb⟩
                    have hbd1 := Lib.hid (below_next0 hbd0.out hb)
                    clear hb
                    go_wp2_with fail
                    refine hK.out _ _ ⟨(blk_cell ((hbd1.out.block _ (blk_lt Hxb_75.out)).trans Hxb_75.out) 0).trans rfl, (blk_cell ((hbd1.out.block _ (blk_lt Hxb_75.out)).trans Hxb_75.out) 1).trans rfl⟩ (fun hHeld => ?_)
                    clear hK K
                    try simp only [Act.put, List.setIfInBounds_toArray, List.set_cons_zero, List.set_cons_succ]
                    refine wTake 4 ?_
                    try simp only [Act.put, List.setIfInBounds_toArray, List.set_cons_zero, List.set_cons_succ]
                    refine wpAnyH_ready (rs := [5]) (by kernel_rfl) (by simp) (AllReadyH.cons rfl (fun K hK => ?_) AllReadyH.nil)
                    go_simp
                    rw [show IntKind.i64.wrap (M.rev + 1) = M.rev + 1 from (i64_w _).trans hw]
                    refine (does_any g t9 (M) ad9 c9 w13 (Ag_70.out.below hbd1.out) (some adx) cc CS (some ⟨p, 0, none⟩) 1 [uO] hcc2 (Kd.C_below Cx_72.out hbd1.out) (by decide) (C_one (kOpn_mk _ uO) ((hbd1.out.block _ (blk_lt Hp_74.out)).trans Hp_74.out)) HSZ.out hbM.1 hbM.2 1 (M.rev + 1) HCD.out.1 HCD.out.2.1 HCD.out.2.2.1 HCD.out.2.2.2).mono ?_
                    rintro e w14 ⟨t8, ad8, c8, rfl, hA, hK2⟩
                    have HK2 := Lib.hid hK2
                    clear hA hK2
                    go_wp2_with fail
                    refine hK.out _ _ ⟨(blk_cell (HK2.out.blk ((hbd1.out.block _ (blk_lt Hxb_75.out)).trans Hxb_75.out) (far_type ((hbd1.out.block _ (blk_lt Ag_70.out.blk)).trans Ag_70.out.blk) ((hbd1.out.block _ (blk_lt Hxb_75.out)).trans Hxb_75.out) (by decide))) 0).trans rfl, (blk_cell (HK2.out.blk ((hbd1.out.block _ (blk_lt Hxb_75.out)).trans Hxb_75.out) (far_type ((hbd1.out.block _ (blk_lt Ag_70.out.blk)).trans Ag_70.out.blk) ((hbd1.out.block _ (blk_lt Hxb_75.out)).trans Hxb_75.out) (by decide))) 1).trans rfl⟩ (fun hHeld => ?_)
                    clear hK K
                    try simp only [Act.put, List.setIfInBounds_toArray, List.set_cons_zero, List.set_cons_succ]
                    refine wTake 6 ?_
                    try simp only [Act.put, List.setIfInBounds_toArray, List.set_cons_zero, List.set_cons_succ]
                    refine wpAnyH_done (by kernel_rfl) ?_ _
                    refine NoPanic.normal ?_
                    clear hHeld
                    go_wp2
                    go_ret
                    exact ⟨by first | rfl | (simp; done), Kb.below (below_next0 B_77.out hbd1.out) HK2.out Gg_6.out (below_next0 B_77.out hbd1.out).size⟩
                  · have k4 : (er == 0) = false := by (rw [c3]; simp [d1, d2])
                    clear c3
                    obtain ⟨adx, e0, g0, g1⟩ := at_Cnd Cx_47.out hjc
                    cases e0
                    rw [HCM.out] at g1
                    have zz0 := (blk_cell Hxb_50.out 0).trans rfl
                    have zz1 := (blk_cell Hxb_50.out 1).trans rfl
                    go_wp2_with fail
                    clear zz0 zz1 g0 g1 k5
                    have hcall := same_any s t_3 (M) ad_4 c_5 g t9 (M) ad9 c9 w9 As_46.out Ag_53.out hbM2.1 hbM2.2
                    rw [sameM_self] at hcall
                    refine hcall.mono ?_
                    clear hcall
                    rintro e w10 ⟨rfl, hb⟩
                    have Ag_54 := Lib.hid (Ag_53.out.below hb)
                    have As_55 := Lib.hid (As_46.out.below hb)
                    have Cx_56 := Lib.hid (Kd.C_below Cx_47.out hb)
                    have Cz_57 := Lib.hid (Kd.C_below Cz_48.out hb)
                    have Hp_58 := Lib.hid ((hb.block _ (blk_lt Hp_49.out)).trans Hp_49.out)
                    have Hxb_59 := Lib.hid ((hb.block _ (blk_lt Hxb_50.out)).trans Hxb_50.out)
                    have Hzb_60 := Lib.hid ((hb.block _ (blk_lt Hzb_51.out)).trans Hzb_51.out)
                    have B_61 := Lib.hid (below_next0 B_52.out hb)
                    clear hb
                    have zz0 := (blk_cell Hzb_60.out 0).trans rfl
                    have zz1 := (blk_cell Hzb_60.out 1).trans rfl
                    go_wp2_with fail
                    clear zz0 zz1
                    have hcall := holds_any g t9 (M) ad9 c9 w10 Ag_54.out (some ad) cap CS2 hcap2 Cz_57.out (by omega)
                    rw [C4.out] at hcall
                    refine hcall.mono ?_
                    clear hcall
                    rintro e w11 ⟨rfl, hb⟩
                    have Ag_62 := Lib.hid (Ag_54.out.below hb)
                    have As_63 := Lib.hid (As_55.out.below hb)
                    have Cx_64 := Lib.hid (Kd.C_below Cx_56.out hb)
                    have Cz_65 := Lib.hid (Kd.C_below Cz_57.out hb)
                    have Hp_66 := Lib.hid ((hb.block _ (blk_lt Hp_58.out)).trans Hp_58.out)
                    have Hxb_67 := Lib.hid ((hb.block _ (blk_lt Hxb_59.out)).trans Hxb_59.out)
                    have Hzb_68 := Lib.hid ((hb.block _ (blk_lt Hzb_60.out)).trans Hzb_60.out)
                    have B_69 := Lib.hid (below_next0 B_61.out hb)
                    clear hb
                    have zz0 := (blk_cell Hxb_67.out 0).trans rfl
                    have zz1 := (blk_cell Hxb_67.out 1).trans rfl
                    go_wp2_with fail
                    clear zz0 zz1
                    have hcall := holds_any g t9 (M) ad9 c9 w11 Ag_62.out (some adx) cc CS hcc2 Cx_64.out (by omega)
                    rw [HOW.out] at hcall
                    refine hcall.mono ?_
                    clear hcall
                    rintro e w12 ⟨rfl, hb⟩
                    have Ag_70 := Lib.hid (Ag_62.out.below hb)
                    have As_71 := Lib.hid (As_63.out.below hb)
                    have Cx_72 := Lib.hid (Kd.C_below Cx_64.out hb)
                    have Cz_73 := Lib.hid (Kd.C_below Cz_65.out hb)
                    have Hp_74 := Lib.hid ((hb.block _ (blk_lt Hp_66.out)).trans Hp_66.out)
                    have Hxb_75 := Lib.hid ((hb.block _ (blk_lt Hxb_67.out)).trans Hxb_67.out)
                    have Hzb_76 := Lib.hid ((hb.block _ (blk_lt Hzb_68.out)).trans Hzb_68.out)
                    have B_77 := Lib.hid (below_next0 B_69.out hb)
                    clear hb
                    go_wp2_with fail
                    refine wp_region_noPanic ?_
                    refine wp_region_held_drew (S := fun W => W.cell? ⟨xb, 0, none⟩ = some (.slice (some adx) CS.length cc) ∧ W.cell? ⟨xb, 1, none⟩ = some (.slice (some ⟨p, 0, none⟩) 1 1)) (by kernel_rfl) (⟨(blk_cell (show w12.drew.heap[xb]? = _ from Hxb_75.out) 0).trans rfl, (blk_cell (show w12.drew.heap[xb]? = _ from Hxb_75.out) 1).trans rfl⟩) (fun hHeld => ?_)
                    have hbd0 := Lib.hid ((Below.refl w12.heap.size w12).drew)
                    refine wTake 0 ?_
                    refine wTake 1 ?_
                    refine wTake 2 ?_
                    try simp only [Act.put, List.setIfInBounds_toArray, List.set_cons_zero, List.set_cons_succ]
                    refine wpAnyH_ready (rs := [3]) (by kernel_rfl) (by simp) (AllReadyH.cons rfl (fun K hK => ?_) AllReadyH.nil)
                    go_simp
                    refine (rev_any s t_3 (M) ad_4 c_5 w12.drew (As_71.out.below hbd0.out)).mono ?_
                    rintro e w13 ⟨rfl, hb⟩
                    have hbd1 := Lib.hid (below_next0 hbd0.out hb)
                    clear hb
                    go_wp2_with fail
                    refine hK.out _ _ ⟨(blk_cell ((hbd1.out.block _ (blk_lt Hxb_75.out)).trans Hxb_75.out) 0).trans rfl, (blk_cell ((hbd1.out.block _ (blk_lt Hxb_75.out)).trans Hxb_75.out) 1).trans rfl⟩ (fun hHeld => ?_)
                    clear hK K
                    try simp only [Act.put, List.setIfInBounds_toArray, List.set_cons_zero, List.set_cons_succ]
                    refine wTake 4 ?_
                    try simp only [Act.put, List.setIfInBounds_toArray, List.set_cons_zero, List.set_cons_succ]
                    refine wpAnyH_ready (rs := [5]) (by kernel_rfl) (by simp) (AllReadyH.cons rfl (fun K hK => ?_) AllReadyH.nil)
                    go_simp
                    rw [show IntKind.i64.wrap (M.rev + 1) = M.rev + 1 from (i64_w _).trans hw]
                    refine (does_any g t9 (M) ad9 c9 w13 (Ag_70.out.below hbd1.out) (some adx) cc CS (some ⟨p, 0, none⟩) 1 [uO] hcc2 (Kd.C_below Cx_72.out hbd1.out) (by decide) (C_one (kOpn_mk _ uO) ((hbd1.out.block _ (blk_lt Hp_74.out)).trans Hp_74.out)) HSZ.out hbM.1 hbM.2 1 (M.rev + 1) HCD.out.1 HCD.out.2.1 HCD.out.2.2.1 HCD.out.2.2.2).mono ?_
                    rintro e w14 ⟨t8, ad8, c8, rfl, hA, hK2⟩
                    have HK2 := Lib.hid hK2
                    clear hA hK2
                    go_wp2_with fail
                    refine hK.out _ _ ⟨(blk_cell (HK2.out.blk ((hbd1.out.block _ (blk_lt Hxb_75.out)).trans Hxb_75.out) (far_type ((hbd1.out.block _ (blk_lt Ag_70.out.blk)).trans Ag_70.out.blk) ((hbd1.out.block _ (blk_lt Hxb_75.out)).trans Hxb_75.out) (by decide))) 0).trans rfl, (blk_cell (HK2.out.blk ((hbd1.out.block _ (blk_lt Hxb_75.out)).trans Hxb_75.out) (far_type ((hbd1.out.block _ (blk_lt Ag_70.out.blk)).trans Ag_70.out.blk) ((hbd1.out.block _ (blk_lt Hxb_75.out)).trans Hxb_75.out) (by decide))) 1).trans rfl⟩ (fun hHeld => ?_)
                    clear hK K
                    try simp only [Act.put, List.setIfInBounds_toArray, List.set_cons_zero, List.set_cons_succ]
                    refine wTake 6 ?_
                    try simp only [Act.put, List.setIfInBounds_toArray, List.set_cons_zero, List.set_cons_succ]
                    refine wpAnyH_done (by kernel_rfl) ?_ _
                    refine NoPanic.normal ?_
                    clear hHeld
                    go_wp2
                    go_ret
                    exact ⟨by first | rfl | (simp; done), Kb.below (below_next0 B_77.out hbd1.out) HK2.out Gg_6.out (below_next0 B_77.out hbd1.out).size⟩
                · have k4 : (er == 0) = false := by (rw [c3]; simp [d1])
                  clear c3
                  obtain ⟨adx, e0, g0, g1⟩ := at_Cnd Cx_47.out hjc
                  cases e0
                  rw [HCM.out] at g1
                  have zz0 := (blk_cell Hxb_50.out 0).trans rfl
                  have zz1 := (blk_cell Hxb_50.out 1).trans rfl
                  go_wp2_with fail
                  clear zz0 zz1 g0 g1 k5
                  have hcall := same_any s t_3 (M) ad_4 c_5 g t9 (M) ad9 c9 w9 As_46.out Ag_53.out hbM2.1 hbM2.2
                  rw [sameM_self] at hcall
                  refine hcall.mono ?_
                  clear hcall
                  rintro e w10 ⟨rfl, hb⟩
                  have Ag_54 := Lib.hid (Ag_53.out.below hb)
                  have As_55 := Lib.hid (As_46.out.below hb)
                  have Cx_56 := Lib.hid (Kd.C_below Cx_47.out hb)
                  have Cz_57 := Lib.hid (Kd.C_below Cz_48.out hb)
                  have Hp_58 := Lib.hid ((hb.block _ (blk_lt Hp_49.out)).trans Hp_49.out)
                  have Hxb_59 := Lib.hid ((hb.block _ (blk_lt Hxb_50.out)).trans Hxb_50.out)
                  have Hzb_60 := Lib.hid ((hb.block _ (blk_lt Hzb_51.out)).trans Hzb_51.out)
                  have B_61 := Lib.hid (below_next0 B_52.out hb)
                  clear hb
                  have zz0 := (blk_cell Hzb_60.out 0).trans rfl
                  have zz1 := (blk_cell Hzb_60.out 1).trans rfl
                  go_wp2_with fail
                  clear zz0 zz1
                  have hcall := holds_any g t9 (M) ad9 c9 w10 Ag_54.out (some ad) cap CS2 hcap2 Cz_57.out (by omega)
                  rw [C4.out] at hcall
                  refine hcall.mono ?_
                  clear hcall
                  rintro e w11 ⟨rfl, hb⟩
                  have Ag_62 := Lib.hid (Ag_54.out.below hb)
                  have As_63 := Lib.hid (As_55.out.below hb)
                  have Cx_64 := Lib.hid (Kd.C_below Cx_56.out hb)
                  have Cz_65 := Lib.hid (Kd.C_below Cz_57.out hb)
                  have Hp_66 := Lib.hid ((hb.block _ (blk_lt Hp_58.out)).trans Hp_58.out)
                  have Hxb_67 := Lib.hid ((hb.block _ (blk_lt Hxb_59.out)).trans Hxb_59.out)
                  have Hzb_68 := Lib.hid ((hb.block _ (blk_lt Hzb_60.out)).trans Hzb_60.out)
                  have B_69 := Lib.hid (below_next0 B_61.out hb)
                  clear hb
                  have zz0 := (blk_cell Hxb_67.out 0).trans rfl
                  have zz1 := (blk_cell Hxb_67.out 1).trans rfl
                  go_wp2_with fail
                  clear zz0 zz1
                  have hcall := holds_any g t9 (M) ad9 c9 w11 Ag_62.out (some adx) cc CS hcc2 Cx_64.out (by omega)
                  rw [HOW.out] at hcall
                  refine hcall.mono ?_
                  clear hcall
                  rintro e w12 ⟨rfl, hb⟩
                  have Ag_70 := Lib.hid (Ag_62.out.below hb)
                  have As_71 := Lib.hid (As_63.out.below hb)
                  have Cx_72 := Lib.hid (Kd.C_below Cx_64.out hb)
                  have Cz_73 := Lib.hid (Kd.C_below Cz_65.out hb)
                  have Hp_74 := Lib.hid ((hb.block _ (blk_lt Hp_66.out)).trans Hp_66.out)
                  have Hxb_75 := Lib.hid ((hb.block _ (blk_lt Hxb_67.out)).trans Hxb_67.out)
                  have Hzb_76 := Lib.hid ((hb.block _ (blk_lt Hzb_68.out)).trans Hzb_68.out)
                  have B_77 := Lib.hid (below_next0 B_69.out hb)
                  clear hb
                  go_wp2_with fail
                  refine wp_region_noPanic ?_
                  refine wp_region_held_drew (S := fun W => W.cell? ⟨xb, 0, none⟩ = some (.slice (some adx) CS.length cc) ∧ W.cell? ⟨xb, 1, none⟩ = some (.slice (some ⟨p, 0, none⟩) 1 1)) (by kernel_rfl) (⟨(blk_cell (show w12.drew.heap[xb]? = _ from Hxb_75.out) 0).trans rfl, (blk_cell (show w12.drew.heap[xb]? = _ from Hxb_75.out) 1).trans rfl⟩) (fun hHeld => ?_)
                  have hbd0 := Lib.hid ((Below.refl w12.heap.size w12).drew)
                  refine wTake 0 ?_
                  refine wTake 1 ?_
                  refine wTake 2 ?_
                  try simp only [Act.put, List.setIfInBounds_toArray, List.set_cons_zero, List.set_cons_succ]
                  refine wpAnyH_ready (rs := [3]) (by kernel_rfl) (by simp) (AllReadyH.cons rfl (fun K hK => ?_) AllReadyH.nil)
                  go_simp
                  refine (rev_any s t_3 (M) ad_4 c_5 w12.drew (As_71.out.below hbd0.out)).mono ?_
                  rintro e w13 ⟨rfl, hb⟩
                  have hbd1 := Lib.hid (below_next0 hbd0.out hb)
                  clear hb
                  go_wp2_with fail
                  refine hK.out _ _ ⟨(blk_cell ((hbd1.out.block _ (blk_lt Hxb_75.out)).trans Hxb_75.out) 0).trans rfl, (blk_cell ((hbd1.out.block _ (blk_lt Hxb_75.out)).trans Hxb_75.out) 1).trans rfl⟩ (fun hHeld => ?_)
                  clear hK K
                  try simp only [Act.put, List.setIfInBounds_toArray, List.set_cons_zero, List.set_cons_succ]
                  refine wTake 4 ?_
                  try simp only [Act.put, List.setIfInBounds_toArray, List.set_cons_zero, List.set_cons_succ]
                  refine wpAnyH_ready (rs := [5]) (by kernel_rfl) (by simp) (AllReadyH.cons rfl (fun K hK => ?_) AllReadyH.nil)
                  go_simp
                  rw [show IntKind.i64.wrap (M.rev + 1) = M.rev + 1 from (i64_w _).trans hw]
                  refine (does_any g t9 (M) ad9 c9 w13 (Ag_70.out.below hbd1.out) (some adx) cc CS (some ⟨p, 0, none⟩) 1 [uO] hcc2 (Kd.C_below Cx_72.out hbd1.out) (by decide) (C_one (kOpn_mk _ uO) ((hbd1.out.block _ (blk_lt Hp_74.out)).trans Hp_74.out)) HSZ.out hbM.1 hbM.2 1 (M.rev + 1) HCD.out.1 HCD.out.2.1 HCD.out.2.2.1 HCD.out.2.2.2).mono ?_
                  rintro e w14 ⟨t8, ad8, c8, rfl, hA, hK2⟩
                  have HK2 := Lib.hid hK2
                  clear hA hK2
                  go_wp2_with fail
                  refine hK.out _ _ ⟨(blk_cell (HK2.out.blk ((hbd1.out.block _ (blk_lt Hxb_75.out)).trans Hxb_75.out) (far_type ((hbd1.out.block _ (blk_lt Ag_70.out.blk)).trans Ag_70.out.blk) ((hbd1.out.block _ (blk_lt Hxb_75.out)).trans Hxb_75.out) (by decide))) 0).trans rfl, (blk_cell (HK2.out.blk ((hbd1.out.block _ (blk_lt Hxb_75.out)).trans Hxb_75.out) (far_type ((hbd1.out.block _ (blk_lt Ag_70.out.blk)).trans Ag_70.out.blk) ((hbd1.out.block _ (blk_lt Hxb_75.out)).trans Hxb_75.out) (by decide))) 1).trans rfl⟩ (fun hHeld => ?_)
                  clear hK K
                  try simp only [Act.put, List.setIfInBounds_toArray, List.set_cons_zero, List.set_cons_succ]
                  refine wTake 6 ?_
                  try simp only [Act.put, List.setIfInBounds_toArray, List.set_cons_zero, List.set_cons_succ]
                  refine wpAnyH_done (by kernel_rfl) ?_ _
                  refine NoPanic.normal ?_
                  clear hHeld
                  go_wp2
                  go_ret
                  exact ⟨by first | rfl | (simp; done), Kb.below (below_next0 B_77.out hbd1.out) HK2.out Gg_6.out (below_next0 B_77.out hbd1.out).size⟩
  · go_enter Try.func6, Try.ntmps6
    go_wp2_with fail
    refine (HW.out _ _ _ hc (Kd.C_below HC.out (Below.refl w.heap.size w))).mono ?_
    rintro e w1 ⟨rfl, hb⟩
    have B_1 := Lib.hid (below_next0 (Below.refl w.heap.size w) hb)
    clear hb
    go_wp2_with fail
    refine (treeAwake_any w1).mono ?_
    rintro e w2 ⟨rfl, hb⟩
    have B_2 := Lib.hid (below_next0 B_1.out hb)
    clear hb
    go_wp2
    go_ret
    exact ⟨rfl, B_2.out⟩
end Go.Proofs.Ytobanhbjkomieaa.TA
