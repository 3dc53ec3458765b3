import Derived.Test.YtobanhbjkomieaaTTSb
import Derived.Test.YtobanhbjkomieaaTPSb
import Derived.Test.YtobanhbjkomieaaRZSb
import Derived.Test.YtobanhbjkomieaaPTrx3Sb
import Derived.Test.YtobanhbjkomieaaPTrx4Sb
import Derived.Test.YtobanhbjkomieaaTVSb
import Derived.Test.YtobanhbjkomieaaPAllx2Sb
import Derived.Test.YtobanhbjkomieaaPAllx3Sb
import Derived.Deep.Strs
import Derived.Lib.SmallJoins
section
namespace Go.Proofs.Ytobanhbjkomieaa.TA
open Go Go.RowKit Go.Proofs.Ytobanhbjkomieaa.KP Go.Proofs.YtobanhbjkomieaaW.PrintWords Go.Proofs.YtobanhbjkomieaaW.PrintLast Go.Proofs.YtobanhbjkomieaaW.PrintMore
open Go.Proofs.Ytobanhbjkomieaa.RP (wTake wSkip wOne wpAnyH_cast below_next0)
set_option linter.unusedSimpArgs false
set_option linter.unusedVariables false
abbrev TxP := PTr.S34
abbrev CnP := PTr.S73
abbrev OpP := PTr.S85
def toC (x : CnP) : Cnd := ⟨x.f0, x.f1⟩
def toO (x : OpP) : Opn := ⟨x.f0, x.f1, x.f2⟩
def toX (x : TxP) : Tx := ⟨x.f0.map toC, x.f1.map toO⟩
theorem C_toC {w : World} {A : Option Addr} {n : Nat} {l : List CnP} (h : Kd.C PTr.k73 w A n l) : Kd.C kCnd w A n (l.map toC) := by
  unfold PTr.k73 at h
  unfold kCnd
  rw [C_iso] at h ⊢
  rw [List.map_map]
  exact h
theorem C_toO {w : World} {A : Option Addr} {n : Nat} {l : List OpP} (h : Kd.C PTr.k85 w A n l) : Kd.C kOpn w A n (l.map toO) := by
  unfold PTr.k85 at h
  unfold kOpn
  rw [C_iso] at h ⊢
  rw [List.map_map]
  exact h
theorem mn_bd {a b : Int} (ha : 0 ≤ a) (hb : 0 ≤ b) : 0 ≤ mn a b ∧ mn a b ≤ a := by unfold mn; split <;> omega
theorem weight_l1 (cs : List CnP) (os : List OpP) (hl : os.length ≤ maxLen) : ∀ (d i : Nat) (n : Int), i + d = os.length → 0 ≤ n → n ≤ 12010 → ∃ r, Ev (fun k => PTr.batonlaw12_weight.l1 k n (i : Int) cs os) r ∧ n ≤ r ∧ r ≤ 12010
  | 0, i, n, h, h0, h1 => by
    refine ⟨n, Ev.step (f := fun _ => some n) (fun k => ?_) (Ev.now _), Int.le_refl _, h1⟩
    simp only [PTr.batonlaw12_weight.l1]
    rw [if_neg (by omega)]
  | d + 1, i, n, h, h0, h1 => by
    unfold maxLen at hl
    by_cases c : n < 4000
    · have b1 := mn_bd (a := 4000) (b := (((PTr.rd_T85 os (i : Int)).f1).size : Int)) (by omega) (by omega)
      have b2 := mn_bd (a := 4000) (b := (((PTr.rd_T85 os (i : Int)).f2).size : Int)) (by omega) (by omega)
      obtain ⟨r, hr, h2, h3⟩ := weight_l1 cs os (by unfold maxLen; omega) d (i + 1) (n + 10 + mn 4000 (((PTr.rd_T85 os (i : Int)).f1).size : Int) + mn 4000 (((PTr.rd_T85 os (i : Int)).f2).size : Int)) (by omega) (by omega) (by omega)
      refine ⟨r, Ev.step (fun k => ?_) hr, by omega, h3⟩
      simp only [PTr.batonlaw12_weight.l1]
      rw [if_pos (by omega), if_pos c, if_pos (by omega)]
      generalize mn 4000 (((PTr.rd_T85 os (i : Int)).f1).size : Int) = p1 at *
      generalize mn 4000 (((PTr.rd_T85 os (i : Int)).f2).size : Int) = p2 at *
      congr 1
      · unfold wrap64; omega
      · unfold wrap64; omega
    · refine ⟨n, Ev.step (f := fun _ => some n) (fun k => ?_) (Ev.now _), Int.le_refl _, h1⟩
      simp only [PTr.batonlaw12_weight.l1]
      rw [if_pos (by omega), if_neg c]
theorem weight_l0 (cs : List CnP) (os : List OpP) (hc : cs.length ≤ maxLen) (hl : os.length ≤ maxLen) : ∀ (d i : Nat) (n : Int), i + d = cs.length → 0 ≤ n → n ≤ 8010 → ∃ r, Ev (fun k => PTr.batonlaw12_weight.l0 k n (i : Int) cs os) r ∧ n ≤ r ∧ r ≤ 12010
  | 0, i, n, h, h0, h1 => by
    obtain ⟨r, hr, h2, h3⟩ := weight_l1 cs os hl os.length 0 n (by omega) h0 (by omega)
    refine ⟨r, Ev.step (f := fun k => PTr.batonlaw12_weight.j1 k n cs os) (fun k => ?_) (Ev.step (fun k => ?_) hr), h2, h3⟩
    · simp only [PTr.batonlaw12_weight.l0]
      rw [if_neg (by omega)]
    · simp only [PTr.batonlaw12_weight.j1]
      rfl
  | d + 1, i, n, h, h0, h1 => by
    unfold maxLen at hc
    by_cases c : n < 4000
    · have b1 := mn_bd (a := 4000) (b := (((PTr.rd_T73 cs (i : Int)).f0).size : Int)) (by omega) (by omega)
      obtain ⟨r, hr, h2, h3⟩ := weight_l0 cs os (by unfold maxLen; omega) hl d (i + 1) (n + 10 + mn 4000 (((PTr.rd_T73 cs (i : Int)).f0).size : Int)) (by omega) (by omega) (by omega)
      refine ⟨r, Ev.step (fun k => ?_) hr, by omega, h3⟩
      simp only [PTr.batonlaw12_weight.l0]
      rw [if_pos (by omega), if_pos c, if_pos (by omega)]
      generalize mn 4000 (((PTr.rd_T73 cs (i : Int)).f0).size : Int) = p1 at *
      congr 1
      · unfold wrap64; omega
      · unfold wrap64; omega
    · obtain ⟨r, hr, h2, h3⟩ := weight_l1 cs os hl os.length 0 n (by omega) h0 (by omega)
      refine ⟨r, Ev.step (f := fun k => PTr.batonlaw12_weight.j1 k n cs os) (fun k => ?_) (Ev.step (fun k => ?_) hr), h2, h3⟩
      · simp only [PTr.batonlaw12_weight.l0]
        rw [if_pos (by omega), if_neg c]
      · simp only [PTr.batonlaw12_weight.j1]
        rfl
theorem weight_ev (cs : List CnP) (os : List OpP) (hc : cs.length ≤ maxLen) (hl : os.length ≤ maxLen) : ∃ r, Ev (fun k => PTr.batonlaw12_weight.f k cs os) r ∧ 10 ≤ r ∧ r ≤ 12010 := weight_l0 cs os hc hl cs.length 0 10 (by omega) (by omega) (by omega)
def okX (x : TxP) : Prop := ((∀ c ∈ x.f0, c.f0.size ≤ maxLen) ∧ x.f0.length ≤ maxLen) ∧ (∀ o ∈ x.f1, o.f1.size ≤ maxLen) ∧ x.f1.length ≤ maxLen
theorem wide_l0 (l : List TxP) (hl : l.length ≤ maxLen) (hx : ∀ x ∈ l, okX x) : ∀ (d i : Nat) (n : Int), i + d = l.length → 10 * i ≤ n → n ≤ 17010 → ∃ b, Ev (fun k => PTr.batonlaw12_wide.l0 k l n (i : Int)) b ∧ (b = false → (l.length : Int) * 10 < 5000)
  | 0, i, n, h, h0, h1 => by
    refine ⟨decide (n ≥ 5000), Ev.step (f := fun _ => some (decide (n ≥ 5000))) (fun k => ?_) (Ev.now _), fun hb => ?_⟩
    · simp only [PTr.batonlaw12_wide.l0]
      rw [if_neg (by omega)]
    · have := of_decide_eq_false hb
      omega
  | d + 1, i, n, h, h0, h1 => by
    unfold maxLen at hl
    have hi : i < l.length := by omega
    by_cases c : n < 5000
    · obtain ⟨⟨_, k1⟩, _, k2⟩ := hx l[i] (List.getElem_mem hi)
      obtain ⟨r, hr, h2, h3⟩ := weight_ev l[i].f0 l[i].f1 k1 k2
      obtain ⟨b, hb, h4⟩ := wide_l0 l (by unfold maxLen; omega) hx d (i + 1) (n + r) (by omega) (by omega) (by omega)
      refine ⟨b, Ev.step (f := fun k => (PTr.batonlaw12_weight.f k l[i].f0 l[i].f1).bind fun t => PTr.batonlaw12_wide.l0 k l (wrap64 (n + t)) ((i + 1 : Nat) : Int)) (fun k => ?_) (Ev.bind hr ?_), h4⟩
      · simp only [PTr.batonlaw12_wide.l0]
        have hg : PTr.rd_T34 l (i : Int) = l[i] := by simp [PTr.rd_T34, List.getD_eq_getElem?_getD, List.getElem?_eq_getElem hi]
        have hw : wrap64 ((i : Int) + 1) = ((i + 1 : Nat) : Int) := by unfold wrap64; omega
        rw [if_pos (by omega), if_pos c, if_pos (by omega), hg, hw]
      · rw [show wrap64 (n + r) = n + r by unfold wrap64; omega]
        exact hb
    · refine ⟨true, Ev.step (f := fun _ => some true) (fun k => ?_) (Ev.now _), fun hb => by cases hb⟩
      simp only [PTr.batonlaw12_wide.l0]
      rw [if_pos (by omega), if_neg c, decide_eq_true (by omega)]
theorem wide_any (l : List TxP) (hl : l.length ≤ maxLen) (hx : ∀ x ∈ l, okX x) : ∃ b, (b = false → l.length ≤ 500) ∧ ∀ (A : Option Addr) (c : Nat) (w : World), l.length ≤ c → Kd.C PTr.k34 w A l.length l →
    Calls Try.prog 38 #[.slice A l.length c] w fun e w' => e = .returned (.bool b) ∧ Below w.heap.size w w' := by
  obtain ⟨b, hb, h⟩ := wide_l0 l hl hx l.length 0 0 (by omega) (by omega) (by omega)
  refine ⟨b, fun e => by have := h e; omega, fun A c w hc hC => ?_⟩
  exact ev_calls hb (fun k hk => PTr.batonlaw12_wide.calls k A c l b w hC hc hk)
end Go.Proofs.Ytobanhbjkomieaa.TA
end
section
namespace Go.Proofs.Ytobanhbjkomieaa.TA
open Go Go.RowKit Go.Proofs.Ytobanhbjkomieaa.KP Go.Proofs.YtobanhbjkomieaaW.PrintWords Go.Proofs.YtobanhbjkomieaaW.PrintLast Go.Proofs.YtobanhbjkomieaaW.PrintMore
open Go.Proofs.Ytobanhbjkomieaa.RP (wTake wSkip wOne wpAnyH_cast below_next0)
set_option linter.unusedSimpArgs false
set_option linter.unusedVariables false
attribute [local go_sem high] EQ.eqA62
theorem at_Tx {w : World} {A : Option Addr} {l : List TxP} (h : Kd.C PTr.k34 w A l.length l) {k : Nat} (hk : k < l.length) : ∃ ad A0 c0 A1 c1, A = some ad ∧ w.cell? (ad.add (k * 2)) = some (.slice A0 (toX l[k]).cs.length c0) ∧ w.cell? ⟨(ad.add (k * 2)).block, (ad.add (k * 2)).off + 1, none⟩ = some (.slice A1 (toX l[k]).os.length c1) ∧
    (toX l[k]).cs.length ≤ c0 ∧ Kd.C kCnd w A0 (toX l[k]).cs.length (toX l[k]).cs ∧ (toX l[k]).os.length ≤ c1 ∧ Kd.C kOpn w A1 (toX l[k]).os.length (toX l[k]).os := by
  obtain ⟨ad, c, e, _, hK, hc⟩ := Kd.C_get h PTr.z34 (k : Int) (by omega) (by omega)
  simp only [Int.toNat_natCast, List.getD_eq_getElem?_getD, List.getElem?_eq_getElem hk, Option.getD_some] at hK hc
  obtain ⟨A0, c0, A1, c1, rfl, l0, g0, l1, g1⟩ := PTr.k34_open hK
  have hc : ∀ j u, _ → w.cell? (ad.add (k * 2 + j)) = some u := hc
  have e0 : (toX l[k]).cs.length = l[k].f0.length := List.length_map _
  have e1 : (toX l[k]).os.length = l[k].f1.length := List.length_map _
  rw [e0, e1]
  exact ⟨ad, A0, c0, A1, c1, e, hc 0 _ rfl, by rw [← add_field _ _ 1 (by omega)]; exact hc 1 _ rfl, l0, C_toC g0, l1, C_toO g1⟩
def okT (x : Tx) : Prop := (∀ c ∈ x.cs, c.key.size ≤ 9223372036854775807) ∧ ∀ o ∈ x.os, o.key.size ≤ 9223372036854775807
theorem okT_of {x : TxP} (h : okX x) : okT (toX x) := by
  obtain ⟨⟨h1, _⟩, h2, _⟩ := h
  refine ⟨fun c hc => ?_, fun o ho => ?_⟩
  · obtain ⟨y, hy, rfl⟩ := List.mem_map.1 hc
    exact h1 y hy
  · obtain ⟨y, hy, rfl⟩ := List.mem_map.1 ho
    exact h2 y hy
theorem run_take {l : List TxP} {k : Nat} (h : k < l.length) (m : Md) : run may ((l.take (k + 1)).map toX) m = (doM (mayTx (toX l[k]).cs (toX l[k]).os) (toX l[k]).cs (toX l[k]).os (run may ((l.take k).map toX) m)).1 := by
  rw [take_snoc h, List.map_append, List.map_singleton, run_snoc]
  rfl
theorem run_bd (l : List TxP) (k : Nat) (h : l.length ≤ 500) (m : Md) (hm : m.row.length ≤ 1000000 ∧ m.hap.length ≤ 1000000) : (run may ((l.take k).map toX) m).row.length ≤ 100000000 ∧ (run may ((l.take k).map toX) m).hap.length ≤ 100000000 := by
  have := run_le ((l.take k).map toX) m
  rw [List.length_map, List.length_take] at this
  omega
set_option maxHeartbeats 4000000 in
set_option maxRecDepth 100000 in
theorem grown_any (A : Option Addr) (c : Nat) (l : List TxP) (w : World) (hc : l.length ≤ c) (hC : Kd.C PTr.k34 w A l.length l) (hx : ∀ x ∈ l, okX x) (hl : l.length ≤ 500) :
    Calls Try.prog 40 #[.slice A l.length c] w fun e w' => ∃ g t ad c', e = .returned (.pointer (some ⟨g, 0, none⟩)) ∧ w.heap.size ≤ g ∧ At w' g t (run may (l.map toX) Md.new) ad c' ∧ Below w.heap.size w w' := by
  have HC := Lib.hid hC
  have HX := Lib.hid hx
  clear hC hx
  go_enter Try.func40, Try.ntmps40
  go_wp2_with fail
  refine (new_any w).mono ?_
  rintro e w1 ⟨g, rfl, hg, hA1, hb1⟩
  have A1 := Lib.hid hA1
  have B1 := Lib.hid hb1
  clear hA1 hb1
  go_wp2_with fail
  go_loopw [4] (fun i wr => ∃ (k : Nat) (t : AT) (ad : Option Addr) (c' : Nat), k ≤ l.length ∧ i = .int .i64 k ∧ Hid (At wr g t (run may ((l.take k).map toX) Md.new) ad c') ∧ Hid (Below w.heap.size w wr)) (fun i _ => l.length - (intOf i).toNat)
  case atStart => exact ⟨0, AT.nil, none, 0, by omega, rfl, A1, B1⟩
  case round =>
    obtain ⟨k, t, ad, c', hk, rfl, HA, HB⟩ := hrel
    by_cases hlt : k < l.length
    · obtain ⟨ab, A0, c0, A9, c9, rfl, f0, f1, l0, g0, l1, g1⟩ := at_Tx (Kd.C_below HC.out HB.out) hlt
      have hbd := run_bd l k hl Md.new ⟨by simp [Md.new], by simp [Md.new]⟩
      have ho := okT_of (HX.out l[k] (List.getElem_mem hlt))
      have hcall := do_any g t _ ad c' wr HA.out A0 c0 (toX l[k]).cs A9 c9 (toX l[k]).os l0 g0 l1 g1 ho hbd.1 hbd.2
      have HR := Lib.hid (run_take hlt Md.new)
      have HCL := Lib.hid hcall
      have i0 : (0 : Int) ≤ (k : Int) := by omega
      have i1 : (k : Int) < (l.length : Int) := by omega
      clear hcall g0 g1 ho hbd l0 l1
      generalize (toX l[k]).cs.length = n0 at *
      generalize (toX l[k]).os.length = n1 at *
      go_wp2_with fail
      refine HCL.out.mono ?_
      rintro e w3 ⟨V, t3, ad3, c3, rfl, _, hA3, hK3⟩
      go_wp2
      go_roundw
      case rel => exact ⟨k + 1, t3, ad3, c3, by omega, by go_num, by rw [HR.out]; exact Lib.hid hA3, Lib.hid (Kb.below HB.out hK3 hg HB.out.size)⟩
      case measure => simp [intOf]; omega
    · obtain rfl : k = l.length := by omega
      rw [List.take_length] at HA
      go_wp2
      go_ret
      exact ⟨g, t, ad, c', rfl, hg, HA.out, HB.out⟩
set_option maxHeartbeats 2000000 in
set_option maxRecDepth 100000 in
theorem lput_any (key val : ByteArray) (A : Option Addr) (n c : Nat) (w : World) :
    Calls Try.prog 49 #[.string key, .string val, .slice A n c] w fun e w' => ∃ g, e = .returned (.agg #[.slice A n c, .slice (some ⟨g, 0, none⟩) 1 1]) ∧ w.heap.size ≤ g ∧ w'.heap[g]? = some (.cells #[.bool false, .string key, .string val] 85 (0, 0)) ∧ Below w.heap.size w w' := by
  go_enter Try.func49, Try.ntmps49
  go_wp2
  refine bodyPost_ret (results_cell_row rfl _ _ w.heap.size 34 #[.slice A n c, .slice (some ⟨w.heap.size + 1, 0, none⟩) 1 1] (0, 0) _ rfl (blk_alloc (heap_alloc_new w (.cells #[.slice A n c, .slice (some ⟨w.heap.size + 1, 0, none⟩) 1 1] 34)) (.cells #[.bool false, .string key, .string val] 85)) Try.underlying34 rfl (by kernel_rfl)) rfl ?_
  exact ⟨w.heap.size + 1, rfl, by omega, alloc_at _ _ (by simp), below_alloc (below_alloc (Below.refl _ _) _) _⟩
set_option maxHeartbeats 4000000 in
set_option maxRecDepth 100000 in
theorem does_any (tb : Nat) (t : AT) (m : Md) (ad : Option Addr) (c : Nat) (w : World) (hT : At w tb t m ad c) (A : Option Addr) (ca : Nat) (cs : List Cnd) (B : Option Addr) (cb : Nat) (os : List Opn) (hca : cs.length ≤ ca) (hA : Kd.C kCnd w A cs.length cs) (hcb : os.length ≤ cb) (hB : Kd.C kOpn w B os.length os)
    (hs : (∀ x ∈ cs, x.key.size ≤ 9223372036854775807) ∧ ∀ x ∈ os, x.key.size ≤ 9223372036854775807) (hr : m.row.length ≤ 100000000) (hh : m.hap.length ≤ 100000000) (ev rev : Int) (h1 : (doM (mayTx cs os) cs os m).2.2.2 = 0) (h2 : (doM (mayTx cs os) cs os m).2.2.1 = true) (h3 : ((doM (mayTx cs os) cs os m).2.1.length : Int) = ev) (h4 : (doM (mayTx cs os) cs os m).1.rev = rev) :
    Calls Try.prog 54 #[.pointer (some ⟨tb, 0, none⟩), .agg #[.slice A cs.length ca, .slice B os.length cb], .int .i64 ev, .int .i64 rev] w fun e w' => ∃ t' ad' c', e = .returned (.bool true) ∧ At w' tb t' (doM (mayTx cs os) cs os m).1 ad' c' ∧ Kb tb w w' := by
  have hd := fun W hW hA hB => do_any tb t m ad c W hW A ca cs B cb os hca hA hcb hB hs hr hh
  rw [h1, h2] at hd
  have HD := Lib.hid hd
  have HT := Lib.hid hT
  have HA := Lib.hid hA
  have HB := Lib.hid hB
  have H3 := Lib.hid h3
  have H4 := Lib.hid h4
  clear hd hT hA hB h1 h2 h3 h4 hs hr hh
  go_enter Try.func54, Try.ntmps54
  go_wp2_with fail
  have Bw := Lib.hid (show Below w.heap.size w (w.alloc (.cells #[.slice A cs.length ca, .slice B os.length cb] 34)) from below_alloc (Below.refl _ _) (.cells #[.slice A cs.length ca, .slice B os.length cb] 34))
  generalize w.alloc (.cells #[.slice A cs.length ca, .slice B os.length cb] 34) = w1 at *
  refine (HD.out w1 (HT.out.below Bw.out) (Kd.C_below HA.out Bw.out) (Kd.C_below HB.out Bw.out)).mono ?_
  rintro e w2 ⟨V, t2, ad2, c2, rfl, hR, hA2, hK2⟩
  obtain ⟨A9, c9, hV⟩ := Kd.R_slice hR
  rw [hV]
  have hlen := H3.out
  have A2 := Lib.hid hA2
  have K2 := Lib.hid ((Kb.of_below Bw.out tb).trans hK2)
  have HD2 := Lib.hid (rev_any tb t2 _ ad2 c2 w2 hA2)
  clear hA2 hK2 hR HD hV
  have hrev := H4.out
  rw [hrev] at HD2
  clear hrev
  generalize hq : (doM (mayTx cs os) cs os m).2.1.length = ql at *
  clear hq
  subst hlen
  go_wp2_with fail
  refine HD2.out.mono ?_
  rintro e w3 ⟨rfl, hb3⟩
  go_wp2
  go_ret
  exact ⟨t2, ad2, c2, rfl, A2.out.below hb3, K2.out.then_below hb3⟩
set_option maxHeartbeats 4000000 in
set_option maxRecDepth 100000 in
theorem has_any (tb : Nat) (t : AT) (m : Md) (ad : Option Addr) (c : Nat) (w : World) (hT : At w tb t m ad c) (key val : ByteArray) (made mod : Int) (hg : getL key m.row = some ⟨key, val, made, mod⟩) :
    Calls Try.prog 58 #[.pointer (some ⟨tb, 0, none⟩), .string key, .string val, .int .i64 made, .int .i64 mod] w fun e w' => e = .returned (.bool true) ∧ Below w.heap.size w w' := by
  have hc := treeGet_any tb t m ad c w hT key
  rw [show getD key m.row = ⟨key, val, made, mod⟩ by unfold getD; rw [hg]; rfl, hg] at hc
  have HC := Lib.hid hc
  clear hc hT hg
  go_enter Try.func58, Try.ntmps58
  go_wp2_with fail
  refine HC.out.mono ?_
  rintro e w1 ⟨rfl, hb⟩
  have hbk : (key.toList == key.toList && (val.toList == val.toList && (made == made && mod == mod))) = true := by simp
  simp only [entV]
  go_wp2
  go_ret
  exact ⟨rfl, below_alloc hb _⟩
set_option maxHeartbeats 2000000 in
set_option maxRecDepth 100000 in
theorem lsince_any (tb : Nat) (t : AT) (m : Md) (ad : Option Addr) (c : Nat) (w : World) (hT : At w tb t m ad c) (n : Int) (hh : m.hap.length ≤ 1000000000) :
    Calls Try.prog 115 #[.pointer (some ⟨tb, 0, none⟩), .int .i64 n] w fun e w' => e = .returned (.tuple #[.int .i64 ((sinceM true ⟨#[]⟩ n m).1.length : Int), .int .i64 (sinceM true ⟨#[]⟩ n m).2]) ∧ Below w.heap.size w w' := by
  have hc := since_any tb t m ad c w hT ⟨#[]⟩ (by simp [ByteArray.size]) n hh
  rw [show isPrefix (⟨#[]⟩ : ByteArray).data.toList = true from rfl] at hc
  have HC := Lib.hid hc
  clear hc hT
  go_enter Try.func115, Try.ntmps115
  go_wp2_with fail
  refine HC.out.mono ?_
  rintro e w1 ⟨V, rfl, hR, hb⟩
  obtain ⟨A9, c9, rfl⟩ := Kd.R_slice hR
  clear hR
  go_wp2
  go_ret2
  exact ⟨rfl, hb⟩
end Go.Proofs.Ytobanhbjkomieaa.TA
end
section
namespace Go.Proofs.Ytobanhbjkomieaa.TA
open Go Go.Proofs.Ytobanhbjkomieaa.KP
set_option linter.unusedSimpArgs false
set_option linter.unusedVariables false
abbrev bA : ByteArray := ⟨#[97]⟩
abbrev bB : ByteArray := ⟨#[98]⟩
abbrev bX : ByteArray := ⟨#[120]⟩
abbrev bY : ByteArray := ⟨#[121]⟩
abbrev bZ : ByteArray := ⟨#[122]⟩
def aw1 : Md := ⟨[⟨bA, bX, 1, 1⟩], 1, 0, [⟨1, false, bA, bX⟩]⟩
def aw2 : Md := ⟨[⟨bA, bY, 1, 2⟩], 2, 0, [⟨1, false, bA, bX⟩, ⟨2, false, bA, bY⟩]⟩
def aw4 : Md := ⟨[⟨bA, bY, 1, 2⟩], 3, 0, [⟨1, false, bA, bX⟩, ⟨2, false, bA, bY⟩]⟩
def aw5 : Md := ⟨[⟨bA, bY, 1, 2⟩], 3, 2, []⟩
theorem lt_self (a : ByteArray) : lt a a = false := lt_irrefl a
theorem keyA : isKey (⟨#[97]⟩ : ByteArray).data.toList = true := by kernel_rfl
theorem awM1 : mayTx [] [⟨false, bA, bX⟩] = true := by
  simp [mayTx, opsOk, mayO, keyA, Lib.toList_data]
  decide
theorem awM2 : mayTx [⟨bA, 1⟩] [⟨false, bA, bY⟩] = true := by
  simp [mayTx, opsOk, mayO, badC, mayR, keyA, Lib.toList_data]
  decide
theorem awM3 : mayTx [⟨bA, 1⟩] [⟨false, bA, bZ⟩] = true := by
  simp [mayTx, opsOk, mayO, badC, mayR, keyA, Lib.toList_data]
  decide
theorem keyB : isKey (⟨#[98]⟩ : ByteArray).data.toList = true := by kernel_rfl
theorem awM4 : mayTx [] [⟨true, bB, ⟨#[]⟩⟩] = true := by
  simp [mayTx, opsOk, mayO, badC, mayR, keyB, Lib.toList_data]
  decide
theorem awD1 : doM (mayTx [] [⟨false, bA, bX⟩]) [] [⟨false, bA, bX⟩] Md.new = (aw1, [⟨1, false, bA, bX⟩], true, 0) := by
  rw [awM1]
  simp [doM, Md.new, holdsL, opsL, opL, insL, madeOf, getL, aw1]
theorem awD2 : doM (mayTx [⟨bA, 1⟩] [⟨false, bA, bY⟩]) [⟨bA, 1⟩] [⟨false, bA, bY⟩] aw1 = (aw2, [⟨2, false, bA, bY⟩], true, 0) := by
  rw [awM2]
  simp [doM, aw1, holdsL, opsL, opL, insL, madeOf, getL, getD, aw2, lt_irrefl]
theorem awD3 : doM (mayTx [⟨bA, 1⟩] [⟨false, bA, bZ⟩]) [⟨bA, 1⟩] [⟨false, bA, bZ⟩] aw2 = (aw2, [], false, 0) := by
  rw [awM3]
  simp [doM, aw2, holdsL, getL, getD]
theorem awD4 : doM (mayTx [] [⟨true, bB, ⟨#[]⟩⟩]) [] [⟨true, bB, ⟨#[]⟩⟩] aw2 = (aw4, [], true, 0) := by
  rw [awM4]
  have : ¬ bA = bB := by decide
  simp [doM, aw2, holdsL, opsL, opL, getL, getD, aw4, this]
theorem awS4 : sinceM true ⟨#[]⟩ 2 aw4 = ([⟨2, false, bA, bY⟩], 0) := by
  simp [sinceM, aw4, sinceL]
theorem awC : cutM 2 aw4 = (aw5, 0) := by
  simp [cutM, aw4, aw5]
  decide
theorem awS5a : sinceM true ⟨#[]⟩ 2 aw5 = ([], 52) := by simp [sinceM, aw5]
theorem awS5b : sinceM true ⟨#[]⟩ 3 aw5 = ([], 0) := by simp [sinceM, aw5, sinceL]
theorem awS5c : sinceM true ⟨#[]⟩ 5 aw5 = ([], 1) := by simp [sinceM, aw5]
end Go.Proofs.Ytobanhbjkomieaa.TA
end
section
namespace Go.Proofs.Ytobanhbjkomieaa.TA
open Go Go.RowKit Go.Proofs.Ytobanhbjkomieaa.KP Go.Proofs.YtobanhbjkomieaaW.PrintWords Go.Proofs.YtobanhbjkomieaaW.PrintLast Go.Proofs.YtobanhbjkomieaaW.PrintMore
open Go.Proofs.Ytobanhbjkomieaa.RP (wTake wSkip wOne wpAnyH_cast below_next0)
set_option linter.unusedSimpArgs false
set_option linter.unusedVariables false
theorem C_one {α : Type} {d : Kd α} {w : World} {g : Nat} {cs : List Value} {T : TypeId} {x : α} (hK : d.K w x cs) (h : w.heap[g]? = some (.cells cs.toArray T (0, 0))) : Kd.C d w (some ⟨g, 0, none⟩) [x].length [x] := by
  refine ⟨rfl, by simp, fun _ => ⟨_, rfl, fun j p hj => ?_⟩⟩
  cases j with
  | zero =>
    obtain rfl : x = p := Option.some.inj hj
    refine ⟨cs, d.K_len hK, hK, fun i u hi => ?_⟩
    rw [Nat.zero_mul, Nat.zero_add]
    exact World.news_of_block (cs := cs.toArray) (t := T) (fr := (0, 0)) h i u (by simpa using hi)
  | succ j => cases hj
theorem szC0 : ∀ x ∈ ([] : List Cnd), x.key.size ≤ 9223372036854775807 := by simp
theorem szC1 {k : ByteArray} {n : Int} (h : k.size ≤ 9223372036854775807) : ∀ x ∈ [Cnd.mk k n], x.key.size ≤ 9223372036854775807 := by
  intro x hx
  obtain rfl := List.mem_singleton.1 hx
  exact h
theorem szO1 {d : Bool} {k v : ByteArray} (h : k.size ≤ 9223372036854775807) : ∀ x ∈ [Opn.mk d k v], x.key.size ≤ 9223372036854775807 := by
  intro x hx
  obtain rfl := List.mem_singleton.1 hx
  exact h
set_option maxHeartbeats 8000000 in
set_option maxRecDepth 100000 in
theorem treeAwake_any (w : World) : Calls Try.prog 39 #[] w fun e w' => e = .returned (.bool true) ∧ Below w.heap.size w w' := by
  go_enter Try.func39, Try.ntmps39
  go_wp2_with fail
  refine (new_any w).mono ?_
  rintro e w1 ⟨g, rfl, hg, hA, hb⟩
  have Gg_1 := Lib.hid (Nat.le_trans (Below.refl w.heap.size w).size hg)
  have B_2 := Lib.hid (below_next0 (Below.refl w.heap.size w) hb)
  have Ag_3 := Lib.hid (hA)
  clear hg hA hb
  go_wp2_with fail
  refine (lput_any bA bX none 0 0 w1).mono ?_
  rintro e w2 ⟨p1, rfl, _, hN, hb⟩
  have Ag_4 := Lib.hid (Ag_3.out.below hb)
  have B_5 := Lib.hid (below_next0 B_2.out hb)
  have Hp1_6 := Lib.hid (hN)
  clear hN hb
  go_wp2_with fail
  refine (does_any g AT.nil (Md.new) none 0 w2 Ag_4.out none 0 [] (some ⟨p1, 0, none⟩) 1 [⟨false, bA, bX⟩] (by simp) (Kd.C_nil _ _) (by simp) (C_one (kOpn_mk _ ⟨false, bA, bX⟩) Hp1_6.out) ⟨szC0, szO1 (by decide)⟩ (by decide) (by decide) 1 1 (by rw [awD1]) (by rw [awD1]) (by rw [awD1]; rfl) (by rw [awD1]; rfl)).mono ?_
  rintro e w3 ⟨t_7, ad_8, c_9, rfl, hA, hK⟩
  have Hp1_10 := Lib.hid (hK.blk Hp1_6.out (far_type Ag_4.out.blk Hp1_6.out (by decide)))
  have B_11 := Lib.hid (Kb.below B_5.out hK Gg_1.out B_5.out.size)
  rw [awD1] at hA
  have Ag_12 := Lib.hid (hA)
  clear hA hK
  go_wp2_with fail
  refine (has_any g t_7 (aw1) ad_8 c_9 w3 Ag_12.out bA bX 1 1 (by simp [getL, aw1])).mono ?_
  rintro e w4 ⟨rfl, hb⟩
  have Ag_13 := Lib.hid (Ag_12.out.below hb)
  have B_14 := Lib.hid (below_next0 B_11.out hb)
  clear hb
  go_wp2_with fail
  obtain ⟨q2, hq2⟩ : ∃ X, X = w4.heap.size := ⟨_, rfl⟩
  try rw [← hq2]
  have hb : Below w4.heap.size w4 (w4.alloc (.cells #[.string bA, .int .i64 1] 73)) := below_alloc (Below.refl _ _) _
  have hN : (w4.alloc (.cells #[.string bA, .int .i64 1] 73)).heap[q2]? = some (.cells #[.string bA, .int .i64 1] 73 (0, 0)) := hq2 ▸ heap_alloc_new w4 (.cells #[.string bA, .int .i64 1] 73)
  clear hq2
  generalize w4.alloc (.cells #[.string bA, .int .i64 1] 73) = w5 at *
  have Ag_15 := Lib.hid (Ag_13.out.below hb)
  have B_16 := Lib.hid (below_next0 B_14.out hb)
  clear hb
  have Hq2_17 := Lib.hid (hN)
  clear hN
  refine (lput_any bA bY (some ⟨q2, 0, none⟩) 1 1 w5).mono ?_
  rintro e w6 ⟨p2, rfl, _, hN, hb⟩
  have Ag_18 := Lib.hid (Ag_15.out.below hb)
  have Hq2_19 := Lib.hid ((hb.block _ (blk_lt Hq2_17.out)).trans Hq2_17.out)
  have B_20 := Lib.hid (below_next0 B_16.out hb)
  have Hp2_21 := Lib.hid (hN)
  clear hN hb
  go_wp2_with fail
  refine (does_any g t_7 (aw1) ad_8 c_9 w6 Ag_18.out (some ⟨q2, 0, none⟩) 1 [⟨bA, 1⟩] (some ⟨p2, 0, none⟩) 1 [⟨false, bA, bY⟩] (by simp) (C_one (kCnd_mk _ ⟨bA, 1⟩) Hq2_19.out) (by simp) (C_one (kOpn_mk _ ⟨false, bA, bY⟩) Hp2_21.out) ⟨szC1 (by decide), szO1 (by decide)⟩ (by decide) (by decide) 1 2 (by rw [awD2]) (by rw [awD2]) (by rw [awD2]; rfl) (by rw [awD2]; rfl)).mono ?_
  rintro e w7 ⟨t_22, ad_23, c_24, rfl, hA, hK⟩
  have Hq2_25 := Lib.hid (hK.blk Hq2_19.out (far_type Ag_18.out.blk Hq2_19.out (by decide)))
  have Hp2_26 := Lib.hid (hK.blk Hp2_21.out (far_type Ag_18.out.blk Hp2_21.out (by decide)))
  have B_27 := Lib.hid (Kb.below B_20.out hK Gg_1.out B_20.out.size)
  rw [awD2] at hA
  have Ag_28 := Lib.hid (hA)
  clear hA hK
  go_wp2_with fail
  refine (has_any g t_22 (aw2) ad_23 c_24 w7 Ag_28.out bA bY 1 2 (by simp [getL, aw2])).mono ?_
  rintro e w8 ⟨rfl, hb⟩
  have Ag_29 := Lib.hid (Ag_28.out.below hb)
  have B_30 := Lib.hid (below_next0 B_27.out hb)
  clear hb
  go_wp2_with fail
  obtain ⟨q3, hq3⟩ : ∃ X, X = w8.heap.size := ⟨_, rfl⟩
  try rw [← hq3]
  have hb : Below w8.heap.size w8 (w8.alloc (.cells #[.string bA, .int .i64 1] 73)) := below_alloc (Below.refl _ _) _
  have hN : (w8.alloc (.cells #[.string bA, .int .i64 1] 73)).heap[q3]? = some (.cells #[.string bA, .int .i64 1] 73 (0, 0)) := hq3 ▸ heap_alloc_new w8 (.cells #[.string bA, .int .i64 1] 73)
  clear hq3
  generalize w8.alloc (.cells #[.string bA, .int .i64 1] 73) = w9 at *
  have Ag_31 := Lib.hid (Ag_29.out.below hb)
  have B_32 := Lib.hid (below_next0 B_30.out hb)
  clear hb
  have Hq3_33 := Lib.hid (hN)
  clear hN
  refine (lput_any bA bZ (some ⟨q3, 0, none⟩) 1 1 w9).mono ?_
  rintro e w10 ⟨p3, rfl, _, hN, hb⟩
  have Ag_34 := Lib.hid (Ag_31.out.below hb)
  have Hq3_35 := Lib.hid ((hb.block _ (blk_lt Hq3_33.out)).trans Hq3_33.out)
  have B_36 := Lib.hid (below_next0 B_32.out hb)
  have Hp3_37 := Lib.hid (hN)
  clear hN hb
  go_wp2_with fail
  have hcall := do_any g t_22 (aw2) ad_23 c_24 w10 Ag_34.out (some ⟨q3, 0, none⟩) 1 [⟨bA, 1⟩] (some ⟨p3, 0, none⟩) 1 [⟨false, bA, bZ⟩] (by simp) (C_one (kCnd_mk _ ⟨bA, 1⟩) Hq3_35.out) (by simp) (C_one (kOpn_mk _ ⟨false, bA, bZ⟩) Hp3_37.out) ⟨szC1 (by decide), szO1 (by decide)⟩ (by decide) (by decide)
  rw [awD3] at hcall
  refine hcall.mono ?_
  clear hcall
  rintro e w11 ⟨V, t9, ad9, c9, rfl, hR, hA, hK⟩
  obtain ⟨A8, c8, rfl⟩ := Kd.R_slice hR
  clear hR
  have B_38 := Lib.hid (Kb.below B_36.out hK Gg_1.out B_36.out.size)
  have Ag_39 := Lib.hid (hA)
  clear hA hK
  go_wp2_with fail
  obtain ⟨p4, hp4⟩ : ∃ X, X = w11.heap.size := ⟨_, rfl⟩
  try rw [← hp4]
  have hb : Below w11.heap.size w11 (w11.alloc (.cells #[.bool true, .string bB, .string ⟨#[]⟩] 85)) := below_alloc (Below.refl _ _) _
  have hN : (w11.alloc (.cells #[.bool true, .string bB, .string ⟨#[]⟩] 85)).heap[p4]? = some (.cells #[.bool true, .string bB, .string ⟨#[]⟩] 85 (0, 0)) := hp4 ▸ heap_alloc_new w11 (.cells #[.bool true, .string bB, .string ⟨#[]⟩] 85)
  clear hp4
  generalize w11.alloc (.cells #[.bool true, .string bB, .string ⟨#[]⟩] 85) = w12 at *
  have Ag_40 := Lib.hid (Ag_39.out.below hb)
  have B_41 := Lib.hid (below_next0 B_38.out hb)
  clear hb
  have Hp4_42 := Lib.hid (hN)
  clear hN
  refine (does_any g t9 (aw2) ad9 c9 w12 Ag_40.out none 0 [] (some ⟨p4, 0, none⟩) 1 [⟨true, bB, ⟨#[]⟩⟩] (by simp) (Kd.C_nil _ _) (by simp) (C_one (kOpn_mk _ ⟨true, bB, ⟨#[]⟩⟩) Hp4_42.out) ⟨szC0, szO1 (by decide)⟩ (by decide) (by decide) 0 3 (by rw [awD4]) (by rw [awD4]) (by rw [awD4]; rfl) (by rw [awD4]; rfl)).mono ?_
  rintro e w13 ⟨t_43, ad_44, c_45, rfl, hA, hK⟩
  have Hp4_46 := Lib.hid (hK.blk Hp4_42.out (far_type Ag_40.out.blk Hp4_42.out (by decide)))
  have B_47 := Lib.hid (Kb.below B_41.out hK Gg_1.out B_41.out.size)
  rw [awD4] at hA
  have Ag_48 := Lib.hid (hA)
  clear hA hK
  go_wp2_with fail
  have hcall := lsince_any g t_43 (aw4) ad_44 c_45 w13 Ag_48.out 2 (by decide)
  rw [awS4] at hcall
  refine hcall.mono ?_
  clear hcall
  rintro e w14 ⟨rfl, hb⟩
  have Ag_49 := Lib.hid (Ag_48.out.below hb)
  have B_50 := Lib.hid (below_next0 B_47.out hb)
  clear hb
  go_wp2_with fail
  have hcall := cut_any g t_43 (aw4) ad_44 c_45 w14 Ag_49.out 2 (by decide)
  rw [awC] at hcall
  refine hcall.mono ?_
  clear hcall
  rintro e w15 ⟨ad10, c10, rfl, hA, hK⟩
  have B_51 := Lib.hid (Kb.below B_50.out hK Gg_1.out B_50.out.size)
  have Ag_52 := Lib.hid (hA)
  clear hA hK
  go_wp2_with fail
  have hcall := lsince_any g t_43 (aw5) ad10 c10 w15 Ag_52.out 2 (by decide)
  rw [awS5a] at hcall
  refine hcall.mono ?_
  clear hcall
  rintro e w16 ⟨rfl, hb⟩
  have Ag_53 := Lib.hid (Ag_52.out.below hb)
  have B_54 := Lib.hid (below_next0 B_51.out hb)
  clear hb
  go_wp2_with fail
  have hcall := lsince_any g t_43 (aw5) ad10 c10 w16 Ag_53.out 3 (by decide)
  rw [awS5b] at hcall
  refine hcall.mono ?_
  clear hcall
  rintro e w17 ⟨rfl, hb⟩
  have Ag_55 := Lib.hid (Ag_53.out.below hb)
  have B_56 := Lib.hid (below_next0 B_54.out hb)
  clear hb
  go_wp2_with fail
  have hcall := lsince_any g t_43 (aw5) ad10 c10 w17 Ag_55.out 5 (by decide)
  rw [awS5c] at hcall
  refine hcall.mono ?_
  clear hcall
  rintro e w18 ⟨rfl, hb⟩
  have Ag_57 := Lib.hid (Ag_55.out.below hb)
  have B_58 := Lib.hid (below_next0 B_56.out hb)
  clear hb
  go_wp2
  go_ret
  exact ⟨rfl, B_58.out⟩
end Go.Proofs.Ytobanhbjkomieaa.TA
end
section
namespace Go.Proofs.Ytobanhbjkomieaa.OP
open Go.ChangeShapes Go.WideShapes Go.Deep Go.Proofs.YtobanhbjkomieaaW.PrintWords
set_option linter.unusedSimpArgs false
set_option linter.unusedVariables false
structure Opens {α : Type} (P : Program) (w : World) (t : TypeId) (d : Kd α) (ok : α → Prop) : Prop where
  size : P.cellsOf t = d.sz
  gives : ∀ (H : Type) (enc : TypeId × Value → H) (base : Nat) (spare : Nat → Bool) (held : Bool) (fuel : Nat) (cs : List Value) (x : DataW H × List MemPlace), DataW.trod enc P w base spare held fuel t cs = some x → ∃ a, d.K w a cs ∧ ok a
section
variable {P : Program} {w : World}
theorem opens_int {t : TypeId} {k : IntKind} (h : P.underlying t = some (.int k)) (hc : P.cellsOf t = 1) : Opens P w t (Kd.int k) (fun n => (Lit.int k n).wf = true) where
  size := hc
  gives _ _ _ _ _ _ _ _ hx := by
    obtain ⟨n, rfl, _, hw⟩ := DataW.trod_int h hx
    exact ⟨n, rfl, hw⟩
theorem opens_bool {t : TypeId} (h : P.underlying t = some .bool) (hc : P.cellsOf t = 1) : Opens P w t Kd.bool (fun _ => True) where
  size := hc
  gives _ _ _ _ _ _ _ _ hx := by
    obtain ⟨n, rfl, _⟩ := DataW.trod_bool h hx
    exact ⟨n, rfl, trivial⟩
theorem opens_string {t : TypeId} (h : P.underlying t = some .string) (hc : P.cellsOf t = 1) : Opens P w t Kd.string (fun s => s.size ≤ maxLen) where
  size := hc
  gives _ _ _ _ _ _ _ _ hx := by
    obtain ⟨n, rfl, _, hw⟩ := DataW.trod_string h hx
    exact ⟨n, rfl, hw⟩
theorem opens_slice {α : Type} {t e : TypeId} {d : Kd α} {ok : α → Prop} (he : Opens P w e d ok) (h : P.underlying t = some (.slice e)) (hc : P.cellsOf t = 1) :
    Opens P w t (Kd.slice e d) (fun l => (∀ x ∈ l, ok x) ∧ l.length ≤ maxLen) where
  size := hc
  gives H enc base spare held fuel cs x hx := by
    rcases open_slice h hx with ⟨rfl, _⟩ | ⟨a, len, cap, m, n, D, Pl, rfl, _, hl, hm, hmm, _, hel⟩
    · exact ⟨[], ⟨none, 0, rfl, Nat.le_refl _, rfl, by simp, fun h => absurd h (by simp)⟩, by simp, by simp⟩
    · have hlm : len ≤ m := by rw [hmm]; split <;> omega
      have each : ∀ i : Fin len, ∃ y : α, ok y ∧ ∃ c, c.length = d.sz ∧ d.K w y c ∧ ∀ j u, c[j]? = some u → w.cell? (a.add (i.val * d.sz + j)) = some u := fun i => by
        obtain ⟨c, hc1, hc2⟩ := hel i.val (by omega)
        obtain ⟨y, hy, hok⟩ := he.gives _ _ _ _ _ _ _ _ hc2
        obtain ⟨_, hcl, hcc⟩ := World.cells?_some hc1
        rw [he.size] at hcl hcc
        refine ⟨y, hok, c, hcl, hy, fun j u hj => ?_⟩
        have hjl : j < d.sz := by have := (List.getElem?_eq_some_iff.1 hj).1; omega
        rw [← Deep.add_add, hcc j hjl, hj]
      refine ⟨List.ofFn fun i => Classical.choose (each i), ⟨some a, cap, ?_, ?_, ?_, ?_, fun hp => ⟨a, rfl, fun j p hj => ?_⟩⟩, fun x hx => ?_, ?_⟩
      · rw [List.length_ofFn]
      · rw [List.length_ofFn]; exact hl
      · rfl
      · rw [List.length_ofFn]; unfold maxLen at hm; omega
      · have hjl : j < len := by have := (List.getElem?_eq_some_iff.1 hj).1; rwa [List.length_ofFn] at this
        rw [List.getElem?_ofFn, dif_pos hjl] at hj
        injection hj with hj
        subst hj
        obtain ⟨_, c, h1, h2, h3⟩ := Classical.choose_spec (each ⟨j, hjl⟩)
        exact ⟨c, h1, h2, h3⟩
      · obtain ⟨i, rfl⟩ := List.mem_ofFn.1 hx
        exact (Classical.choose_spec (each i)).1
      · rw [List.length_ofFn]; omega
def Seg {α : Type} (P : Program) (w : World) (fs : List Field) (o : Nat) (d : Kd α) (ok : α → Prop) : Prop :=
  ∀ (H : Type) (enc : TypeId × Value → H) (base : Nat) (spare : Nat → Bool) (held : Bool) (fuel : Nat) (cs : List Value), cs.length = o + d.sz →
    (∀ f ∈ fs, ∃ y, DataW.trod enc P w base spare held fuel f.type ((cs.drop f.offset).take (P.cellsOf f.type)) = some y) → ∃ a, d.K w a (cs.drop o) ∧ ok a
theorem seg_one {α : Type} {f : Field} {d : Kd α} {ok : α → Prop} (h : Opens P w f.type d ok) {o : Nat} (ho : f.offset = o) : Seg P w [f] o d ok := by
  intro H enc base spare held fuel cs hl hf
  obtain ⟨y, hy⟩ := hf f (by simp)
  rw [ho, h.size, List.take_of_length_le (by rw [List.length_drop]; omega)] at hy
  exact h.gives _ _ _ _ _ _ _ _ hy
theorem seg_cons {α β : Type} {f : Field} {fs : List Field} {d : Kd α} {d' : Kd β} {ok : α → Prop} {ok' : β → Prop} (h : Opens P w f.type d ok) {o : Nat} (ho : f.offset = o) (hs : Seg P w fs (o + d.sz) d' ok') :
    Seg P w (f :: fs) o (Kd.pair d d') (fun x => ok x.1 ∧ ok' x.2) := by
  intro H enc base spare held fuel cs hl hf
  obtain ⟨y, hy⟩ := hf f (by simp)
  rw [ho, h.size] at hy
  obtain ⟨a, ha, hok⟩ := h.gives _ _ _ _ _ _ _ _ hy
  have hl' : cs.length = o + (d.sz + d'.sz) := hl
  obtain ⟨b, hb, hok'⟩ := hs H enc base spare held fuel cs (by omega) (fun g hg => hf g (by simp [hg]))
  refine ⟨(a, b), ⟨_, _, ?_, ha, hb⟩, hok, hok'⟩
  rw [← List.drop_drop, List.take_append_drop]
theorem opens_struct {α : Type} {t : TypeId} {fs : Array Field} {d : Kd α} {ok : α → Prop} (h : P.underlying t = some (.struct fs)) (hc : P.cellsOf t = d.sz) (hs : Seg P w fs.toList 0 d ok) : Opens P w t d ok where
  size := hc
  gives H enc base spare held fuel cs x hx := by
    obtain ⟨xs, n, _, _, hl, hlen, hf⟩ := DataW.trod_struct h hx
    have := hs H enc base spare held n cs (by omega) (fun f hfm => by
      obtain ⟨i, hi, rfl⟩ := List.getElem_of_mem hfm
      have hi' : i < fs.size := by simpa using hi
      refine ⟨xs[i], ?_⟩
      rw [hf i _ (by simp [hi']), List.getElem?_eq_getElem (by omega)])
    simpa using this
theorem opens_iso {α β : Type} {t : TypeId} {d : Kd α} {ok : α → Prop} (h : Opens P w t d ok) (f : β → α) (g : α → β) (hfg : ∀ a, f (g a) = a) : Opens P w t (Kd.iso d f) (fun b => ok (f b)) where
  size := h.size
  gives H enc base spare held fuel cs x hx := by
    obtain ⟨a, ha, hok⟩ := h.gives _ _ _ _ _ _ _ _ hx
    exact ⟨g a, by show d.K w (f (g a)) cs; rwa [hfg], by rwa [hfg]⟩
theorem opens_ok {α : Type} {t : TypeId} {d : Kd α} {ok ok' : α → Prop} (h : Opens P w t d ok) (hk : ∀ a, ok a → ok' a) : Opens P w t d ok' where
  size := h.size
  gives H enc base spare held fuel cs x hx := by
    obtain ⟨a, ha, hok⟩ := h.gives _ _ _ _ _ _ _ _ hx
    exact ⟨a, ha, hk a hok⟩
theorem arg_slice {α H : Type} {enc : TypeId × Value → H} {base base' : Nat} {spare : Nat → Bool} {held : Bool} {r : Reach} {t e : TypeId} {d : Kd α} {ok : List α → Prop} {v : Value} {x : DataW H} {p : List MemPlace} (ho : Opens P w t (Kd.slice e d) ok)
    (ht : P.underlying t = some (.slice e)) (hv : Value.okWide P w r base' t v) (h : DataW.Trod enc P w base spare held t v x p) : ∃ A c l, v = .slice A l.length c ∧ l.length ≤ c ∧ d.C w A l.length l ∧ ok l := by
  obtain ⟨A, n, c, rfl⟩ := okWide_slice ht hv
  obtain ⟨k, hk⟩ := h
  obtain ⟨l, ⟨A', c', he, hl, hC⟩, hok⟩ := ho.gives _ _ _ _ _ _ _ _ hk
  have he' : Value.slice A n c = Value.slice A' l.length c' := by simpa [Value.cells] using he
  injection he' with h1 h2 h3
  subst h1 h2 h3
  exact ⟨A, c, l, rfl, hl, hC, hok⟩
end
end Go.Proofs.Ytobanhbjkomieaa.OP
end
section
namespace Go.Proofs.Ytobanhbjkomieaa.OP
open Go.ChangeShapes Go.WideShapes Go.Deep Go.Proofs.YtobanhbjkomieaaW.PrintWords
set_option linter.unusedSimpArgs false
set_option linter.unusedVariables false
abbrev I64 : Kd Int := Kd.int .i64
abbrev wf64 (n : Int) : Prop := (Lit.int .i64 n).wf = true
abbrev small (s : ByteArray) : Prop := s.size ≤ maxLen
end Go.Proofs.Ytobanhbjkomieaa.OP
end
