import Derived.Test.YtobanhbjkomieaaRR
import Derived.Test.YtobanhbjkomieaaRQ
import Derived.Test.YtobanhbjkomieaaRS
namespace Go.Proofs.Ytobanhbjkomieaa.RP
open Go.RowKit Go.Proofs.Ytobanhbjkomieaa.PAll Go.Proofs.Ytobanhbjkomieaa.KP Go.Proofs.Ytobanhbjkomieaa.BP Go.Proofs.YtobanhbjkomieaaW.PrintWords Go.Proofs.YtobanhbjkomieaaW.PrintLast Go.Proofs.YtobanhbjkomieaaW.PrintMore
set_option linter.unusedSimpArgs false
set_option linter.unusedVariables false
/-! ### RecordCounts -/
theorem info_En : (Try.prog.info? 62).map (fun i => (i.zero, i.size, i.bytes)) = some (some (.agg #[.string ⟨#[]⟩, .string ⟨#[]⟩, .int .i64 0, .int .i64 0]), k62.sz, 48) := by kernel_rfl
theorem kM_En (w : World) (base : Nat) (ok : Nat → Prop) (x : En) (cs : List Value) (h : k62.K w x cs) : k62.M w base ok x cs := by
  rw [k62_open h]
  exact k62_mkM _ _ _ _
theorem R_none (w : World) (base : Nat) (hb : base ≤ w.heap.size) (ok : Nat → Prop) (hok : ok w.heap.size) : Kd.R k62 62 (w.alloc (.cells #[] 62)) base ok (.slice (some ⟨w.heap.size, 0, none⟩) 0 0) [] :=
  ⟨fun k hk => by simp [Value.ownBlock] at hk; subst hk; exact hok, OwnRow.lit w base (inner := []) (ps := []) ⟨rfl, fun j p hj => by simp at hj⟩ hb (by simp)⟩
theorem liveL_app (l m : List En) (t : List UInt8) : liveL (l ++ m) t = liveL l t + liveL m t := List.countP_append
theorem idx_nat (n : Int) (k : Nat) (h : 0 < k) (hs : k ≤ 1000000) : ∃ j : Nat, wrap64 ((IntKind.u64.wrap n).tmod (k : Int)) = (j : Int) ∧ j < k := by
  have h0 : 0 ≤ IntKind.u64.wrap n := by rw [IntKind.wrap_u64]; omega
  generalize IntKind.u64.wrap n = m at *
  have h1 := Int.emod_nonneg m (show (k : Int) ≠ 0 by omega)
  have h2 := Int.emod_lt_of_pos m (show (0 : Int) < (k : Int) by omega)
  refine ⟨(m % (k : Int)).toNat, ?_, by omega⟩
  rw [Int.tmod_eq_emod_of_nonneg h0, Int.toNat_of_nonneg h1]
  generalize m % (k : Int) = q at *
  unfold wrap64
  omega
theorem C_put {q : List En} {W : World} {g : Nat} {ad : Addr} (had : ad = ⟨g, 0, none⟩) (hC : Kd.C k62 W (some ad) q.length q) {j : Nat} (hj : j < q.length) (a : ByteArray) :
    Kd.C k62 (W.setCell ⟨(ad.add (j * 4)).block, (ad.add (j * 4)).off + 1, none⟩ (.string a)) (some ad) (q.set j { q[j] with f1 := a }).length (q.set j { q[j] with f1 := a }) := by
  subst had
  have hz : k62.sz = 4 := rfl
  obtain ⟨h1, h2, h3⟩ := hC
  rw [hz] at h3
  show ReadsRow _ k62.sz _ _ _ _
  rw [hz]
  refine ⟨rfl, by rw [List.length_set]; exact h2, fun hp => ?_⟩
  rw [List.length_set] at hp
  obtain ⟨ad, e, h⟩ := h3 hp
  cases e
  simp only [add_plain] at h ⊢
  refine ⟨_, rfl, fun i p hi => ?_⟩
  simp only [add_plain]
  have hil : i < q.length := by
    have := (List.getElem?_eq_some_iff.1 hi).1
    rwa [List.length_set] at this
  obtain ⟨cs, hcs, hK, hcell⟩ := h i q[i] (List.getElem?_eq_getElem hil)
  have hcs' := k62_open hK
  subst hcs'
  rw [List.getElem?_set] at hi
  by_cases hij : j = i
  · subst hij
    rw [if_pos rfl, if_pos hj] at hi
    cases hi
    refine ⟨_, rfl, k62_mk _ _, fun r u hu => ?_⟩
    rcases r with _ | _ | r
    · rw [World.cell?_setCell_other _ _ _ _ (by simp)]
      exact hcell 0 u hu
    · have : u = .string a := by simpa using hu.symm
      subst this
      exact World.cell?_setCell_same _ _ _ (hcell 1 _ rfl)
    · rw [World.cell?_setCell_other _ _ _ _ (by simp)]
      exact hcell (r + 2) u hu
  · rw [if_neg hij] at hi
    rw [List.getElem?_eq_getElem hil] at hi
    cases hi
    refine ⟨_, rfl, k62_mk _ _, fun r u hu => ?_⟩
    have hr4 : r < 4 := by
      have := (List.getElem?_eq_some_iff.1 hu).1
      simpa using this
    rw [World.cell?_setCell_other _ _ _ _ (by simp; try omega)]
    exact hcell r u hu
theorem liveL_set {q : List En} {t : List UInt8} {j : Nat} (hj : j < q.length) (x : En) : liveL (q.set j x) t + (if isLive t q[j] then 1 else 0) = liveL q t + if isLive t x then 1 else 0 := by
  unfold liveL
  rw [List.countP_set hj]
  have : isLive t q[j] = true → 0 < List.countP (isLive t) q := fun h => List.countP_pos_iff.2 ⟨_, List.getElem_mem hj, h⟩
  cases h : isLive t q[j] <;> cases isLive t x <;> simp_all <;> omega
theorem readIt_rec {k v ten cl : List UInt8} {rc : Rc} {tn : Tn} (h : readIt k v = (⟨ten, cl, rc, tn⟩, 0)) (hc : cl ≠ []) : (readK k).2.2 = true ∧ (readK k).2.1 = cl ∧ decRc v = (rc, 0) := by
  unfold readIt at h
  split at h
  · simp at h
  · rename_i h1
    split at h
    · split at h
      · rename_i h2
        simp only [Prod.mk.injEq] at h
        exact absurd h.2 h2
      · simp only [Prod.mk.injEq, It.mk.injEq] at h
        exact absurd h.1.2.1.symm hc
    · split at h
      · rename_i h2
        simp only [Prod.mk.injEq] at h
        exact absurd h.2 h2
      · rename_i h2
        simp only [Prod.mk.injEq, It.mk.injEq] at h
        refine ⟨by simpa using h1, h.1.2.1, Prod.ext h.1.2.2.1 (by simpa using h2)⟩
theorem goneNow {k v ten cl : List UInt8} {rep a : ByteArray} {ep tm : Int} {gone : Bool} {tn : Tn} (h : readIt k v = (⟨ten, cl, rcOf rep ep tm gone, tn⟩, 0)) (hc : cl ≠ []) (hm : mayRec rep ep tm = true) (ha : a.data.toList = (rcOf rep ep tm true).bytes) (t : List UInt8) (x : En) (hx : x.f0.data.toList = k) (y : En) (hy : y = { x with f1 := a }) : isLive t y = false := by
  obtain ⟨h1, h2, _⟩ := readIt_rec h hc
  have hr := decRc_full (r := rcOf rep ep tm true) hm []
  rw [List.append_nil, if_pos rfl] at hr
  subst hy
  unfold isLive readIt
  simp only [hx, ha, hr, h1, h2]
  simp [hc, rcOf]
theorem live_put {q : List En} {W : World} {g cap : Nat} {ad : Addr} (had : ad = ⟨g, 0, none⟩) (hC : Kd.C k62 W (some ad) q.length q) {j : Nat} (hj : j < q.length) (a t : ByteArray) (hcap : q.length ≤ cap) (hq : q.length ≤ 2000) (hs : ∀ x ∈ q, x.f0.size ≤ 10000 ∧ x.f1.size ≤ 10000) (ha : a.size ≤ 128) :
    Calls Try.prog 91 #[.slice (some ad) q.length cap, .string t] (W.setCell ⟨(ad.add (j * 4)).block, (ad.add (j * 4)).off + 1, none⟩ (.string a)) fun e w' => e = .returned (.int .i64 (liveL (q.set j { q[j] with f1 := a }) t.data.toList)) ∧ Below (W.setCell ⟨(ad.add (j * 4)).block, (ad.add (j * 4)).off + 1, none⟩ (.string a)).heap.size (W.setCell ⟨(ad.add (j * 4)).block, (ad.add (j * 4)).off + 1, none⟩ (.string a)) w' := by
  have h := live_any (some ad) cap (q.set j { q[j] with f1 := a }) t _ (by rw [List.length_set]; exact hcap) (C_put had hC hj a) (by rw [List.length_set]; omega) (fun x hx => by
    rcases List.mem_or_eq_of_mem_set hx with h | rfl
    · have := hs x h; omega
    · have := hs q[j] (List.getElem_mem hj); simp only; omega)
  rw [List.length_set] at h
  exact h
theorem cntPut {q : List En} {t : List UInt8} {j : Nat} (hj : j < q.length) {z : En} {n : Int} {b : Bool} (hn : (liveL q t : Int) = n) (hb : isLive t q[j] = b) (hz : isLive t z = false) : (liveL (q.set j z) t : Int) = if b then n - 1 else n := by
  have := liveL_set hj z (t := t)
  rw [hb, hz] at this
  cases b <;> simp at this ⊢ <;> omega
set_option maxHeartbeats 2000000 in
set_option maxRecDepth 100000 in
theorem RecordCounts_core (A B : Option Addr) (c d : Nat) (l m : List En) (t : ByteArray) (n : Int) (w : World) (hc : l.length ≤ c) (hr : Kd.C k62 w A l.length l) (hd : m.length ≤ d) (hq : Kd.C k62 w B m.length m) (okl : l.length ≤ maxLen) (okm : m.length ≤ maxLen) (ht : t.size ≤ 140737488351232) (hn : OP.wf64 n) :
    Calls Try.prog 20 #[.slice A l.length c, .slice B m.length d, .string t, .int .i64 n] w fun e w' => e = .returned (.bool true) ∧ Below w.heap.size w w' := by
  have hn' := OP.wf64_bd hn
  have L1 := Lib.hid (fun W h => long_any A c l W hc h okl)
  have L2 := Lib.hid (fun W h => long_any B d m W hd h okm)
  have HC := Lib.hid hr
  have HQ := Lib.hid hq
  clear hr hq hn
  cases hb : longB 0 l
  rotate_left
  · rw [hb] at L1
    go_enter Try.func20, Try.ntmps20
    go_wp2_with fail
    refine (L1.out _ HC.out).mono ?_
    rintro e w1 ⟨rfl, hb1⟩
    go_wp2_with fail
    refine (awake_any _).mono ?_
    rintro e w2 ⟨rfl, hb2⟩
    go_wp2
    go_ret
    exact ⟨rfl, below_next0 hb1 hb2⟩
  rw [hb] at L1
  cases hb' : longB 0 m
  rotate_left
  · rw [hb'] at L2
    go_enter Try.func20, Try.ntmps20
    go_wp2_with fail
    refine (L1.out _ HC.out).mono ?_
    rintro e w1 ⟨rfl, hb1⟩
    go_wp2_with fail
    refine (L2.out _ (Kd.C_below HQ.out hb1)).mono ?_
    rintro e w2 ⟨rfl, hb2⟩
    have k2 := below_next0 hb1 hb2
    go_wp2_with fail
    refine (awake_any _).mono ?_
    rintro e w3 ⟨rfl, hb3⟩
    go_wp2
    go_ret
    exact ⟨rfl, below_next0 k2 hb3⟩
  rw [hb'] at L2
  by_cases h0 : 1000 < t.size
  · go_enter Try.func20, Try.ntmps20
    go_wp2_with fail
    refine (L1.out _ HC.out).mono ?_
    rintro e w1 ⟨rfl, hb1⟩
    go_wp2_with fail
    refine (L2.out _ (Kd.C_below HQ.out hb1)).mono ?_
    rintro e w2 ⟨rfl, hb2⟩
    have k2 := below_next0 hb1 hb2
    go_wp2_with fail
    refine (awake_any _).mono ?_
    rintro e w3 ⟨rfl, hb3⟩
    go_wp2
    go_ret
    exact ⟨rfl, below_next0 k2 hb3⟩
  obtain ⟨hl1, hl2⟩ := longB_no hb
  obtain ⟨hm1, hm2⟩ := longB_no hb'
  clear hb hb'
  have hsl : ∀ x ∈ l, x.f0.size ≤ 140737488351232 ∧ x.f1.size ≤ 140737488351232 := fun x hx => by have := hl2 x hx; omega
  have hsm : ∀ x ∈ m, x.f0.size ≤ 140737488351232 ∧ x.f1.size ≤ 140737488351232 := fun x hx => by have := hm2 x hx; omega
  have V1 := Lib.hid (fun W h => live_any A c l t W hc h (by omega) hsl)
  have V2 := Lib.hid (fun W h => live_any B d m t W hd h (by omega) hsm)
  go_enter Try.func20, Try.ntmps20
  go_wp2_with fail
  refine (L1.out _ HC.out).mono ?_
  rintro e w1 ⟨rfl, hb1⟩
  go_wp2_with fail
  refine (L2.out _ (Kd.C_below HQ.out hb1)).mono ?_
  rintro e w2 ⟨rfl, hb2⟩
  have k2 := below_next0 hb1 hb2
  clear hb1 hb2
  go_wp2_with fail
  refine (awake_any _).mono ?_
  rintro e w3 ⟨rfl, hb3⟩
  have k3 := below_next0 k2 hb3
  clear k2 hb3
  clear L1 L2
  have hR := R_none w3 w.heap.size k3.size (fun k => w.heap.size ≤ k) k3.size
  have hB := below_alloc k3 (.cells #[] 62)
  go_wp2_with (first | (at_builtin; refine Kd.R_append_rows k62 (w0 := w) w.heap.size rfl _ _ 52 62 _ 48 rfl Try.underlying52 info_En rfl (by decide) (by decide) v4 ([] ++ l) m B m.length d (fun k => w.heap.size ≤ k) (fun _ => False) rfl rfl hR4 (Kd.C_below HQ.out hB4) (kM_En _ _ _) (fun k h => h.elim) (fun k h => Nat.le_trans hB4.size h) hB4 hB4.size (by simp; omega) ?_; intro v5 w5 hR5 hB5 hG5 hO5) | (at_builtin; refine Kd.R_append_rows k62 (w0 := w) w.heap.size rfl _ _ 52 62 _ 48 rfl Try.underlying52 info_En rfl (by decide) (by decide) (.slice (some ⟨w3.heap.size, 0, none⟩) 0 0) [] l A l.length c (fun k => w.heap.size ≤ k) (fun _ => False) rfl rfl hR (Kd.C_below HC.out hB) (kM_En _ _ _) (fun k h => h.elim) (fun k h => Nat.le_trans hB.size h) hB hB.size (by simp; omega) ?_; intro v4 w4 hR4 hB4 hG4 hO4))
  simp only [List.nil_append] at hR5
  clear hR hB hR4 hB4 hG4 hO4 hG5 hO5 k3
  obtain ⟨x, hx, hx0, hx1⟩ : ∃ x : Int, (liveL l t.data.toList : Int) = x ∧ 0 ≤ x ∧ x ≤ 1000 := ⟨_, rfl, by omega, by have := liveL_le l t.data.toList; omega⟩
  obtain ⟨y, hy, hy0, hy1⟩ : ∃ y : Int, (liveL m t.data.toList : Int) = y ∧ 0 ≤ y ∧ y ≤ 1000 := ⟨_, rfl, by omega, by have := liveL_le m t.data.toList; omega⟩
  have hxy : (liveL (l ++ m) t.data.toList : Int) = x + y := by rw [liveL_app]; omega
  have hql : (l ++ m).length ≤ 2000 := by rw [List.length_append]; omega
  have hqs : ∀ x ∈ l ++ m, x.f0.size ≤ 10000 ∧ x.f1.size ≤ 10000 := fun x hx => by
    rcases List.mem_append.1 hx with h | h
    · have := hl2 x h; omega
    · have := hm2 x h; omega
  have hw : wrap64 (x + y) = x + y := by unfold wrap64; omega
  rw [hx] at V1
  rw [hy] at V2
  generalize l ++ m = q at *
  clear hl1 hl2 hm1 hm2 hsl hsm hx hy
  have HR := Lib.hid hR5
  have HB5 := Lib.hid hB5
  have HS := Lib.hid hqs
  have HXY := Lib.hid hxy
  clear hR5 hB5 hqs hxy
  by_cases hz : q = []
  · subst hz
    obtain ⟨D, cp, rfl, hle5, hC5⟩ := Kd.R_reads HR.out
    go_wp2_with fail
    refine (live_any D cp [] t _ (by simp) hC5 (by simp) (by simp)).mono ?_
    rintro e w6 ⟨rfl, hb6⟩
    have k6 := below_next0 HB5.out hb6
    clear hb6
    rw [HXY.out]
    go_wp2_with fail
    refine (V1.out _ (Kd.C_below HC.out k6)).mono ?_
    rintro e w7 ⟨rfl, hb7⟩
    have k7 := below_next0 k6 hb7
    clear hb7
    go_wp2_with fail
    refine (V2.out _ (Kd.C_below HQ.out k7)).mono ?_
    rintro e w8 ⟨rfl, hb8⟩
    have k8 := below_next0 k7 hb8
    clear hb8
    go_wp2_with fail
    refine (V1.out _ (Kd.C_below HC.out k8)).mono ?_
    rintro e w9 ⟨rfl, hb9⟩
    have k9 := below_next0 k8 hb9
    clear hb9
    go_wp2_with fail
    refine (V2.out _ (Kd.C_below HQ.out k9)).mono ?_
    rintro e w10 ⟨rfl, hb10⟩
    have k10 := below_next0 k9 hb10
    go_wp2
    go_ret
    exact ⟨by first | rfl | (simp; done), k10⟩
  have hp : 0 < q.length := List.length_pos_iff.2 hz
  obtain ⟨g, cap, hv, hgb, hgl, cells, hcells⟩ := Kd.R_form HR.out hp
  obtain ⟨ad, had⟩ : ∃ ad : Addr, ad = ⟨g, 0, none⟩ := ⟨_, rfl⟩
  rw [← had] at hv
  subst hv
  obtain ⟨_, hcap, hC5⟩ := Kd.R_reads' HR.out
  have HC5 := Lib.hid hC5
  have HG := Lib.hid hcells
  have HAD := Lib.hid had
  clear hC5 hcells had hz HR
  obtain ⟨j, hj1, hj2⟩ := idx_nat n q.length hp (by omega)
  have hwa : IntKind.u64.wrap (q.length : Int) = q.length := by rw [IntKind.wrap_u64]; omega
  have hj0 : (q.length : Int) ≠ 0 := by omega
  go_wp2_with fail
  refine (live_any (some ad) cap q t _ hcap HC5.out (by omega) (fun x hx => by have := HS.out x hx; omega)).mono ?_
  rintro e w6 ⟨rfl, hb6⟩
  have k6 := below_next0 HB5.out hb6
  have HC6 := Lib.hid (Kd.C_below HC5.out hb6)
  have HG6 := Lib.hid ((hb6.block g hgl).trans HG.out)
  have s6 := hb6.size
  clear hb6
  rw [HXY.out]
  go_wp2_with fail
  refine (V1.out _ (Kd.C_below HC.out k6)).mono ?_
  rintro e w7 ⟨rfl, hb7⟩
  have k7 := below_next0 k6 hb7
  have HC7 := Lib.hid (Kd.C_below HC6.out hb7)
  have HG7 := Lib.hid ((hb7.block g (by omega)).trans HG6.out)
  have s7 := hb7.size
  clear hb7
  go_wp2_with fail
  refine (V2.out _ (Kd.C_below HQ.out k7)).mono ?_
  rintro e w8 ⟨rfl, hb8⟩
  have k8 := below_next0 k7 hb8
  have HC8 := Lib.hid (Kd.C_below HC7.out hb8)
  have HG8 := Lib.hid ((hb8.block g (by omega)).trans HG7.out)
  have hgl8 : g < w8.heap.size := by have := hb8.size; omega
  clear hb8 k6 k7 HC5 HC6 HC7 HG HG6 HG7 s6 s7 hgl V1 V2 HC HQ HB5
  obtain ⟨ad', e1, f0, f1, f2, f3⟩ := at_T62 HC8.out (j : Int) (by omega) (by omega)
  cases e1
  rw [rd_get hj2] at f0 f1 f2 f3
  simp only [Int.toNat_natCast] at f0 f1 f2 f3
  obtain ⟨s0, s1⟩ := HS.out q[j] (List.getElem_mem hj2)
  obtain ⟨ten, cl, rep, ep, tm, gone, live, eps, e, hv, c1, _⟩ := readBoth q[j].f0 q[j].f1 (by omega) (by omega)
  have C1 := Lib.hid c1
  have HV := Lib.hid hv
  have i0 : (0 : Int) ≤ (j : Int) := by omega
  have i1 : (j : Int) < (q.length : Int) := by omega
  have n0 := World.new_ne w8 _ f0
  have n1 := World.new_ne w8 _ f1
  clear c1 hv f2 f3
  go_wp2_with fail
  go_region_held3 (fun W => W.cell? (ad.add (j * 4)) = some (.string q[j].f0) ∧ W.cell? ⟨(ad.add (j * 4)).block, (ad.add (j * 4)).off + 1, none⟩ = some (.string q[j].f1)) (go_keep) ((go_at_call 79; (with_reducible refine (C1.out _).mono ?_); rintro r w9 ⟨rfl, hb9⟩; have d0 := keep_cell (a := ad.add (j * 4)) (v := .string q[j].f0) hb9 (by simp [*]); have d1 := keep_cell (a := ⟨(ad.add (j * 4)).block, (ad.add (j * 4)).off + 1, none⟩) (v := .string q[j].f1) hb9 (by simp [*]); (try (have hx := new_keep8 hb9; have c0 := blk_cell hx 0; have g0 := blk_frozen hx 0; have c1 := blk_cell hx 1; have g1 := blk_frozen hx 1; have c2 := blk_cell hx 2; have g2 := blk_frozen hx 2; have c3 := blk_cell hx 3; have g3 := blk_frozen hx 3; have c4 := blk_cell hx 4; have g4 := blk_frozen hx 4; have c5 := blk_cell hx 5; have g5 := blk_frozen hx 5; have c6 := blk_cell hx 6; have g6 := blk_frozen hx 6; have c7 := blk_cell hx 7; have g7 := blk_frozen hx 7; simp only [List.getElem?_toArray, List.getElem?_cons_zero, List.getElem?_cons_succ] at c0 c1 c2 c3 c4 c5 c6 c7; clear hx))))
  · have HB8 := Lib.hid (below_alloc ((below_drew (Below.refl w8.heap.size w8)).trans hb9) (.cells #[.string ten, .string cl, .string rep, .int .i64 ep, .int .i64 tm, .bool gone, .int .i64 live, .int .i64 eps] 113))
    have HX := Lib.hid (heap_alloc_new w9 (.cells #[.string ten, .string cl, .string rep, .int .i64 ep, .int .i64 tm, .bool gone, .int .i64 live, .int .i64 eps] 113))
    have hN8 : w8.heap.size ≤ w9.heap.size := hb9.size
    clear hb9
    generalize w9.alloc (.cells #[.string ten, .string cl, .string rep, .int .i64 ep, .int .i64 tm, .bool gone, .int .i64 live, .int .i64 eps] 113) = W at *
    generalize w9.heap.size = N at *
    clear f0 f1 n0 n1 C1
    have hNg : g < N := by omega
    by_cases g0 : e = 0
    · subst g0
      have hcX0 := blk_cell HX.out 0
      have hcX1 := blk_cell HX.out 1
      have hcX2 := blk_cell HX.out 2
      have hcX3 := blk_cell HX.out 3
      have hcX4 := blk_cell HX.out 4
      have hcX5 := blk_cell HX.out 5
      have hcX6 := blk_cell HX.out 6
      have hcX7 := blk_cell HX.out 7
      have hfX := blk_frozen HX.out 5
      have hlX := blk_lt HX.out
      simp only [List.getElem?_toArray, List.getElem?_cons_zero, List.getElem?_cons_succ] at hcX0 hcX1 hcX2 hcX3 hcX4 hcX5 hcX6 hcX7
      by_cases g1 : cl.data.toList = []
      · have g2 : cl.toList = [] := by rw [Lib.toList_data]; exact g1
        go_wp2
        go_ret
        exact ⟨by first | rfl | (simp; done), k8.trans (HB8.out.mono k8.size)⟩
      have g2 : cl.toList.isEmpty = false := by rw [Lib.toList_data]; exact List.isEmpty_eq_false_iff.2 g1
      have g3 : ¬ cl.toList = [] := by rw [Lib.toList_data]; exact g1
      have hdr := (readIt_rec HV.out g1).2.2
      have hmy := (decRc_ok hdr).1
      have hrs : rep.size ≤ 140737488351232 := by have := (may_bd hmy).2.2.2.2.1; rw [Lib.size_eq]; unfold rcOf at this; simp only at this; omega
      rcases encCase rep hrs ep tm true with ⟨hm, a, ha1, _, ha3, b1, _⟩ | ⟨m4, _⟩
      rotate_left
      · have h9 : mayRec rep ep tm = true := hmy
        rw [h9] at m4; cases m4
      have hgn := goneNow HV.out g1 hm ha3 t.data.toList q[j] rfl _ rfl
      have B1 := Lib.hid b1
      have HGN := Lib.hid hgn
      clear b1 hgn hdr hmy hm ha3
      have hbl : w.heap.size ≤ (ad.add (j * 4)).block := by rw [HAD.out, add_plain]; exact hgb
      by_cases g4 : ten.data.toList = t.data.toList
      · have g5 : (ten.toList == t.toList) = true := by rw [Lib.toList_data, Lib.toList_data]; exact beq_iff_eq.2 g4
        cases gone
        · go_wp2_with fail
          refine (B1.out _).mono ?_
          rintro r w10 ⟨rfl, hb10⟩
          have HB9 := Lib.hid (HB8.out.setCell (p := ⟨N, 5, none⟩) hN8 (.bool true))
          have HB10 := Lib.hid (HB9.out.trans (hb10.mono HB9.out.size))
          clear hb10 HB9
          have HC10 := Lib.hid (Kd.C_below HC8.out HB10.out)
          have HG10 := (HB10.out.block g hgl8).trans HG8.out
          have k10 := k8.trans (HB10.out.mono k8.size)
          have hfz : w10.frozen? ⟨(ad.add (j * 4)).block, (ad.add (j * 4)).off + 1, none⟩ = false := by rw [HAD.out, add_plain]; exact blk_frozen HG10 _
          obtain ⟨ad', e1, f0, f1, f2, f3⟩ := at_T62 HC10.out (j : Int) (by omega) (by omega)
          cases e1
          rw [rd_get hj2] at f1
          simp only [Int.toNat_natCast] at f1
          clear f0 f2 f3 HG10
          have hlv := live_put HAD.out HC10.out hj2 a t hcap hql HS.out ha1
          rw [cntPut hj2 HXY.out (b := true) (by unfold isLive; rw [HV.out]; simp [g1, g4, rcOf]) HGN.out] at hlv
          have k11 := k10.setCell (p := ⟨(ad.add (j * 4)).block, (ad.add (j * 4)).off + 1, none⟩) hbl (.string a)
          have hw1 : wrap64 (x + y - 1) = x + y - 1 := by unfold wrap64; omega
          simp only [if_true, Bool.false_eq_true, if_false] at hlv
          go_wp2_with fail
          refine hlv.mono ?_
          rintro r w12 ⟨rfl, hb12⟩
          have k12 := below_next0 k11 hb12
          go_wp2
          go_ret
          exact ⟨by first | rfl | (simp; done), k12⟩
        · go_wp2_with fail
          refine (B1.out _).mono ?_
          rintro r w10 ⟨rfl, hb10⟩
          have HB9 := Lib.hid (HB8.out.setCell (p := ⟨N, 5, none⟩) hN8 (.bool true))
          have HB10 := Lib.hid (HB9.out.trans (hb10.mono HB9.out.size))
          clear hb10 HB9
          have HC10 := Lib.hid (Kd.C_below HC8.out HB10.out)
          have HG10 := (HB10.out.block g hgl8).trans HG8.out
          have k10 := k8.trans (HB10.out.mono k8.size)
          have hfz : w10.frozen? ⟨(ad.add (j * 4)).block, (ad.add (j * 4)).off + 1, none⟩ = false := by rw [HAD.out, add_plain]; exact blk_frozen HG10 _
          obtain ⟨ad', e1, f0, f1, f2, f3⟩ := at_T62 HC10.out (j : Int) (by omega) (by omega)
          cases e1
          rw [rd_get hj2] at f1
          simp only [Int.toNat_natCast] at f1
          clear f0 f2 f3 HG10
          have hlv := live_put HAD.out HC10.out hj2 a t hcap hql HS.out ha1
          rw [cntPut hj2 HXY.out (b := false) (by unfold isLive; rw [HV.out]; simp [g1, g4, rcOf]) HGN.out] at hlv
          have k11 := k10.setCell (p := ⟨(ad.add (j * 4)).block, (ad.add (j * 4)).off + 1, none⟩) hbl (.string a)
          have hw1 : wrap64 (x + y - 1) = x + y - 1 := by unfold wrap64; omega
          simp only [if_true, Bool.false_eq_true, if_false] at hlv
          go_wp2_with fail
          refine hlv.mono ?_
          rintro r w12 ⟨rfl, hb12⟩
          have k12 := below_next0 k11 hb12
          go_wp2
          go_ret
          exact ⟨by first | rfl | (simp; done), k12⟩
      · have g5 : (ten.toList == t.toList) = false := by rw [Lib.toList_data, Lib.toList_data]; exact beq_eq_false_iff_ne.2 g4
        go_wp2_with fail
        refine (B1.out _).mono ?_
        rintro r w10 ⟨rfl, hb10⟩
        have HB9 := Lib.hid (HB8.out.setCell (p := ⟨N, 5, none⟩) hN8 (.bool true))
        have HB10 := Lib.hid (HB9.out.trans (hb10.mono HB9.out.size))
        clear hb10 HB9
        have HC10 := Lib.hid (Kd.C_below HC8.out HB10.out)
        have HG10 := (HB10.out.block g hgl8).trans HG8.out
        have k10 := k8.trans (HB10.out.mono k8.size)
        have hfz : w10.frozen? ⟨(ad.add (j * 4)).block, (ad.add (j * 4)).off + 1, none⟩ = false := by rw [HAD.out, add_plain]; exact blk_frozen HG10 _
        obtain ⟨ad', e1, f0, f1, f2, f3⟩ := at_T62 HC10.out (j : Int) (by omega) (by omega)
        cases e1
        rw [rd_get hj2] at f1
        simp only [Int.toNat_natCast] at f1
        clear f0 f2 f3 HG10
        have hlv := live_put HAD.out HC10.out hj2 a t hcap hql HS.out ha1
        rw [cntPut hj2 HXY.out (b := false) (by unfold isLive; rw [HV.out]; simp [g1, g4, rcOf]) HGN.out] at hlv
        have k11 := k10.setCell (p := ⟨(ad.add (j * 4)).block, (ad.add (j * 4)).off + 1, none⟩) hbl (.string a)
        have hw1 : wrap64 (x + y - 1) = x + y - 1 := by unfold wrap64; omega
        simp only [if_true, Bool.false_eq_true, if_false] at hlv
        go_wp2_with fail
        refine hlv.mono ?_
        rintro r w12 ⟨rfl, hb12⟩
        have k12 := below_next0 k11 hb12
        go_wp2
        go_ret
        exact ⟨by first | rfl | (simp; done), k12⟩
    · have g1 : (e == 0) = false := beq_eq_false_iff_ne.2 g0
      go_wp2
      go_ret
      exact ⟨by first | rfl | (simp; done), k8.trans (HB8.out.mono k8.size)⟩
  · have HB8 := Lib.hid ((((((((((below_drew (below_alloc (Below.refl w8.heap.size w8) (.cells #[.string ⟨#[]⟩, .string ⟨#[]⟩, .string ⟨#[]⟩, .int .i64 0, .int .i64 0, .bool false, .int .i64 0, .int .i64 0] 113))).trans (hb9.mono (by simp))).setCell (p := ⟨w8.heap.size, 0, none⟩) (Nat.le_refl _) (.string ten)).setCell (p := ⟨w8.heap.size, 1, none⟩) (Nat.le_refl _) (.string cl)).setCell (p := ⟨w8.heap.size, 2, none⟩) (Nat.le_refl _) (.string rep)).setCell (p := ⟨w8.heap.size, 3, none⟩) (Nat.le_refl _) (.int .i64 ep)).setCell (p := ⟨w8.heap.size, 4, none⟩) (Nat.le_refl _) (.int .i64 tm)).setCell (p := ⟨w8.heap.size, 5, none⟩) (Nat.le_refl _) (.bool gone)).setCell (p := ⟨w8.heap.size, 6, none⟩) (Nat.le_refl _) (.int .i64 live)).setCell (p := ⟨w8.heap.size, 7, none⟩) (Nat.le_refl _) (.int .i64 eps))
    have HX := Lib.hid (blk_put8 (a' := .string ten) (b' := .string cl) (c' := .string rep) (d' := .int .i64 ep) (e' := .int .i64 tm) (f' := .bool gone) (h' := .int .i64 live) (i' := .int .i64 eps) (new_keep8 hb9))

    clear hb9
    try clear d0 d1 c0 c1 c2 c3 c4 c5 c6 c7 
    generalize ((((((((w9.setCell ⟨w8.heap.size, 0, none⟩ (.string ten)).setCell ⟨w8.heap.size, 1, none⟩ (.string cl)).setCell ⟨w8.heap.size, 2, none⟩ (.string rep)).setCell ⟨w8.heap.size, 3, none⟩ (.int .i64 ep)).setCell ⟨w8.heap.size, 4, none⟩ (.int .i64 tm)).setCell ⟨w8.heap.size, 5, none⟩ (.bool gone)).setCell ⟨w8.heap.size, 6, none⟩ (.int .i64 live)).setCell ⟨w8.heap.size, 7, none⟩ (.int .i64 eps)) = W at *
    generalize hN : w8.heap.size = N at HX ⊢
    have hN8 : w8.heap.size ≤ N := by omega
    clear f0 f1 n0 n1 C1
    have hNg : g < N := by omega
    by_cases g0 : e = 0
    · subst g0
      have hcX0 := blk_cell HX.out 0
      have hcX1 := blk_cell HX.out 1
      have hcX2 := blk_cell HX.out 2
      have hcX3 := blk_cell HX.out 3
      have hcX4 := blk_cell HX.out 4
      have hcX5 := blk_cell HX.out 5
      have hcX6 := blk_cell HX.out 6
      have hcX7 := blk_cell HX.out 7
      have hfX := blk_frozen HX.out 5
      have hlX := blk_lt HX.out
      simp only [List.getElem?_toArray, List.getElem?_cons_zero, List.getElem?_cons_succ] at hcX0 hcX1 hcX2 hcX3 hcX4 hcX5 hcX6 hcX7
      by_cases g1 : cl.data.toList = []
      · have g2 : cl.toList = [] := by rw [Lib.toList_data]; exact g1
        go_wp2
        go_ret
        exact ⟨by first | rfl | (simp; done), k8.trans (HB8.out.mono k8.size)⟩
      have g2 : cl.toList.isEmpty = false := by rw [Lib.toList_data]; exact List.isEmpty_eq_false_iff.2 g1
      have g3 : ¬ cl.toList = [] := by rw [Lib.toList_data]; exact g1
      have hdr := (readIt_rec HV.out g1).2.2
      have hmy := (decRc_ok hdr).1
      have hrs : rep.size ≤ 140737488351232 := by have := (may_bd hmy).2.2.2.2.1; rw [Lib.size_eq]; unfold rcOf at this; simp only at this; omega
      rcases encCase rep hrs ep tm true with ⟨hm, a, ha1, _, ha3, b1, _⟩ | ⟨m4, _⟩
      rotate_left
      · have h9 : mayRec rep ep tm = true := hmy
        rw [h9] at m4; cases m4
      have hgn := goneNow HV.out g1 hm ha3 t.data.toList q[j] rfl _ rfl
      have B1 := Lib.hid b1
      have HGN := Lib.hid hgn
      clear b1 hgn hdr hmy hm ha3
      have hbl : w.heap.size ≤ (ad.add (j * 4)).block := by rw [HAD.out, add_plain]; exact hgb
      by_cases g4 : ten.data.toList = t.data.toList
      · have g5 : (ten.toList == t.toList) = true := by rw [Lib.toList_data, Lib.toList_data]; exact beq_iff_eq.2 g4
        cases gone
        · go_wp2_with fail
          refine (B1.out _).mono ?_
          rintro r w10 ⟨rfl, hb10⟩
          have HB9 := Lib.hid (HB8.out.setCell (p := ⟨N, 5, none⟩) hN8 (.bool true))
          have HB10 := Lib.hid (HB9.out.trans (hb10.mono HB9.out.size))
          clear hb10 HB9
          have HC10 := Lib.hid (Kd.C_below HC8.out HB10.out)
          have HG10 := (HB10.out.block g hgl8).trans HG8.out
          have k10 := k8.trans (HB10.out.mono k8.size)
          have hfz : w10.frozen? ⟨(ad.add (j * 4)).block, (ad.add (j * 4)).off + 1, none⟩ = false := by rw [HAD.out, add_plain]; exact blk_frozen HG10 _
          obtain ⟨ad', e1, f0, f1, f2, f3⟩ := at_T62 HC10.out (j : Int) (by omega) (by omega)
          cases e1
          rw [rd_get hj2] at f1
          simp only [Int.toNat_natCast] at f1
          clear f0 f2 f3 HG10
          have hlv := live_put HAD.out HC10.out hj2 a t hcap hql HS.out ha1
          rw [cntPut hj2 HXY.out (b := true) (by unfold isLive; rw [HV.out]; simp [g1, g4, rcOf]) HGN.out] at hlv
          have k11 := k10.setCell (p := ⟨(ad.add (j * 4)).block, (ad.add (j * 4)).off + 1, none⟩) hbl (.string a)
          have hw1 : wrap64 (x + y - 1) = x + y - 1 := by unfold wrap64; omega
          simp only [if_true, Bool.false_eq_true, if_false] at hlv
          go_wp2_with fail
          refine hlv.mono ?_
          rintro r w12 ⟨rfl, hb12⟩
          have k12 := below_next0 k11 hb12
          go_wp2
          go_ret
          exact ⟨by first | rfl | (simp; done), k12⟩
        · go_wp2_with fail
          refine (B1.out _).mono ?_
          rintro r w10 ⟨rfl, hb10⟩
          have HB9 := Lib.hid (HB8.out.setCell (p := ⟨N, 5, none⟩) hN8 (.bool true))
          have HB10 := Lib.hid (HB9.out.trans (hb10.mono HB9.out.size))
          clear hb10 HB9
          have HC10 := Lib.hid (Kd.C_below HC8.out HB10.out)
          have HG10 := (HB10.out.block g hgl8).trans HG8.out
          have k10 := k8.trans (HB10.out.mono k8.size)
          have hfz : w10.frozen? ⟨(ad.add (j * 4)).block, (ad.add (j * 4)).off + 1, none⟩ = false := by rw [HAD.out, add_plain]; exact blk_frozen HG10 _
          obtain ⟨ad', e1, f0, f1, f2, f3⟩ := at_T62 HC10.out (j : Int) (by omega) (by omega)
          cases e1
          rw [rd_get hj2] at f1
          simp only [Int.toNat_natCast] at f1
          clear f0 f2 f3 HG10
          have hlv := live_put HAD.out HC10.out hj2 a t hcap hql HS.out ha1
          rw [cntPut hj2 HXY.out (b := false) (by unfold isLive; rw [HV.out]; simp [g1, g4, rcOf]) HGN.out] at hlv
          have k11 := k10.setCell (p := ⟨(ad.add (j * 4)).block, (ad.add (j * 4)).off + 1, none⟩) hbl (.string a)
          have hw1 : wrap64 (x + y - 1) = x + y - 1 := by unfold wrap64; omega
          simp only [if_true, Bool.false_eq_true, if_false] at hlv
          go_wp2_with fail
          refine hlv.mono ?_
          rintro r w12 ⟨rfl, hb12⟩
          have k12 := below_next0 k11 hb12
          go_wp2
          go_ret
          exact ⟨by first | rfl | (simp; done), k12⟩
      · have g5 : (ten.toList == t.toList) = false := by rw [Lib.toList_data, Lib.toList_data]; exact beq_eq_false_iff_ne.2 g4
        go_wp2_with fail
        refine (B1.out _).mono ?_
        rintro r w10 ⟨rfl, hb10⟩
        have HB9 := Lib.hid (HB8.out.setCell (p := ⟨N, 5, none⟩) hN8 (.bool true))
        have HB10 := Lib.hid (HB9.out.trans (hb10.mono HB9.out.size))
        clear hb10 HB9
        have HC10 := Lib.hid (Kd.C_below HC8.out HB10.out)
        have HG10 := (HB10.out.block g hgl8).trans HG8.out
        have k10 := k8.trans (HB10.out.mono k8.size)
        have hfz : w10.frozen? ⟨(ad.add (j * 4)).block, (ad.add (j * 4)).off + 1, none⟩ = false := by rw [HAD.out, add_plain]; exact blk_frozen HG10 _
        obtain ⟨ad', e1, f0, f1, f2, f3⟩ := at_T62 HC10.out (j : Int) (by omega) (by omega)
        cases e1
        rw [rd_get hj2] at f1
        simp only [Int.toNat_natCast] at f1
        clear f0 f2 f3 HG10
        have hlv := live_put HAD.out HC10.out hj2 a t hcap hql HS.out ha1
        rw [cntPut hj2 HXY.out (b := false) (by unfold isLive; rw [HV.out]; simp [g1, g4, rcOf]) HGN.out] at hlv
        have k11 := k10.setCell (p := ⟨(ad.add (j * 4)).block, (ad.add (j * 4)).off + 1, none⟩) hbl (.string a)
        have hw1 : wrap64 (x + y - 1) = x + y - 1 := by unfold wrap64; omega
        simp only [if_true, Bool.false_eq_true, if_false] at hlv
        go_wp2_with fail
        refine hlv.mono ?_
        rintro r w12 ⟨rfl, hb12⟩
        have k12 := below_next0 k11 hb12
        go_wp2
        go_ret
        exact ⟨by first | rfl | (simp; done), k12⟩
    · have g1 : (e == 0) = false := beq_eq_false_iff_ne.2 g0
      go_wp2
      go_ret
      exact ⟨by first | rfl | (simp; done), k8.trans (HB8.out.mono k8.size)⟩
theorem RecordCounts_walk (A : Option Addr) (c : Nat) (l : List En) (B : Option Addr) (d : Nat) (m : List En) (t : ByteArray) (n : Int) (w : World) (hc : l.length ≤ c) (hr : Kd.C k62 w A l.length l) (ok : (∀ x ∈ l, OP.okEn x) ∧ l.length ≤ maxLen) (hd : m.length ≤ d) (hq : Kd.C k62 w B m.length m) (ok' : (∀ x ∈ m, OP.okEn x) ∧ m.length ≤ maxLen) (ht : t.size ≤ 140737488351232) (hn : OP.wf64 n) :
    Calls Try.prog 20 #[.slice A l.length c, .slice B m.length d, .string t, .int .i64 n] w fun e w' => e = .returned (.bool true) ∧ Below w.heap.size w w' :=
  RecordCounts_core A B c d l m t n w hc hr hd hq ok.2 ok'.2 ht hn
end Go.Proofs.Ytobanhbjkomieaa.RP
