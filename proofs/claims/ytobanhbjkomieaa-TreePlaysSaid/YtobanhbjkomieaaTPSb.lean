import Derived.Test.YtobanhbjkomieaaTOSb
import Derived.Test.YtobanhbjkomieaaTNSb
namespace Go.Proofs.Ytobanhbjkomieaa.TA
open Go Go.RowKit Go.Proofs.Ytobanhbjkomieaa.KP Go.Proofs.YtobanhbjkomieaaW.PrintWords Go.Proofs.YtobanhbjkomieaaW.PrintLast Go.Proofs.YtobanhbjkomieaaW.PrintMore
open Go.Proofs.Ytobanhbjkomieaa.RP (wTake wSkip wOne wpAnyH_cast below_next0)
set_option linter.unusedSimpArgs false
set_option linter.unusedVariables false
theorem cut0H {goal : Prop} {G : Prop} (main : G → goal) (pf : G) : goal := main pf
theorem opL_evs {rev : Int} {o : Opn} {l : List Ent} : (opL rev o l).2 = [] ∨ (opL rev o l).2 = [⟨rev, o.del, o.key, o.val⟩] := by
  unfold opL
  cases hd : o.del
  · simp
  · simp only [if_true]
    split
    · simp
    · simp
theorem take_snoc {α : Type} {l : List α} {k : Nat} (h : k < l.length) : l.take (k + 1) = l.take k ++ [l[k]] := (List.take_append_getElem h).symm
theorem mayTxn_all (A : Option Addr) (ca : Nat) (cs : List Cnd) (B : Option Addr) (cb : Nat) (os : List Opn) (w : World) (hca : cs.length ≤ ca) (hA : Kd.C kCnd w A cs.length cs) (hcb : os.length ≤ cb) (hB : Kd.C kOpn w B os.length os)
    (hs : (∀ x ∈ cs, x.key.size ≤ 9223372036854775807) ∧ ∀ x ∈ os, x.key.size ≤ 9223372036854775807) :
    Calls Try.prog 50 #[.agg #[.slice A cs.length ca, .slice B os.length cb]] w fun e w' => e = .returned (.bool (mayTx cs os)) ∧ Below w.heap.size w w' := by
  by_cases hl : cs.length ≤ 8 ∧ os.length ≤ 8
  · exact mayTxn_any A ca cs B cb os w hca hA hcb hB hs ⟨by omega, by omega⟩
  · have hm : mayTx cs os = false := by unfold mayTx; rw [decide_eq_false hl, Bool.false_and]
    rw [hm]
    clear hm hs hA hB
    by_cases h1 : cs.length ≤ 8
    · have h2 : ¬ os.length ≤ 8 := fun h => hl ⟨h1, h⟩
      have k1 : (cs.length : Int) ≤ 8 := by omega
      have k2 : (8 : Int) < (os.length : Int) := by omega
      clear h1 h2 hl
      go_enter Try.func50, Try.ntmps50
      go_wp2
      go_ret
      exact ⟨rfl, by first | exact Below.refl _ _ | exact below_alloc (Below.refl _ _) _⟩
    · have k2 : (8 : Int) < (cs.length : Int) := by omega
      clear h1 hl
      go_enter Try.func50, Try.ntmps50
      go_wp2
      go_ret
      exact ⟨rfl, by first | exact Below.refl _ _ | exact below_alloc (Below.refl _ _) _⟩
theorem R_kb {α : Type} {d : Kd α} {e : Nat} {W W' : World} {base g : Nat} {v : Value} {xs : List α} (h : d.R e W base (fun _ => True) v xs) (hb : Kb g W W') (hg : g < base) : d.R e W' base (fun _ => True) v xs :=
  Kd.R_mono (Kd.R_step (Kd.R_bound h) (fun k hk hlt => hb.block k hlt (by have := hk.2.1; omega))) (fun _ _ => trivial)
theorem R_new {α : Type} {d : Kd α} {e : Nat} {W : World} {base : Nat} {ok : Nat → Prop} {A : Option Addr} {n c : Nat} {xs : List α} (h : d.R e W base ok (.slice A n c) xs) (a : Addr) (ha : A = some a) (hp : 0 < xs.length) : base ≤ a.block := by
  obtain ⟨g, cap, hv, hb, _⟩ := Kd.R_form h hp
  injection hv with hv
  obtain rfl : a = ⟨g, 0, none⟩ := Option.some.inj (ha.symm.trans hv)
  exact hb
set_option maxHeartbeats 8000000 in
set_option maxRecDepth 100000 in
theorem do_anyA (tb : Nat) (t : AT) (m : Md) (ad : Option Addr) (c : Nat) (w : World) (hT : At w tb t m ad c) (A : Option Addr) (ca : Nat) (cs : List Cnd) (B : Option Addr) (cb : Nat) (os : List Opn) (hca : cs.length ≤ ca) (hA : Kd.C kCnd w A cs.length cs) (hcb : os.length ≤ cb) (hB : Kd.C kOpn w B os.length os)
    (hs : (∀ x ∈ cs, x.key.size ≤ 9223372036854775807) ∧ ∀ x ∈ os, x.key.size ≤ 9223372036854775807) (hr : m.row.length ≤ 100000000) (hh : m.hap.length ≤ 100000000) :
    Calls Try.prog 43 #[.pointer (some ⟨tb, 0, none⟩), .agg #[.slice A cs.length ca, .slice B os.length cb]] w fun e w' => ∃ V t' ad' c', e = .returned (.tuple #[V, .bool (doM (mayTx cs os) cs os m).2.2.1, .int .i64 (doM (mayTx cs os) cs os m).2.2.2]) ∧ kEvt.R 60 w' w.heap.size (fun _ => True) V (doM (mayTx cs os) cs os m).2.1 ∧ At w' tb t' (doM (mayTx cs os) cs os m).1 ad' c' ∧ Kb tb w w' ∧ (∀ a, ad' = some a → 0 < (doM (mayTx cs os) cs os m).1.hap.length → ∀ q, V.ownBlock = some q → a.block ≠ q) ∧ (∀ a, ad' = some a → 0 < (doM (mayTx cs os) cs os m).1.hap.length → ad' = ad ∧ 0 < m.hap.length ∨ w.heap.size ≤ a.block) := by
  cases hm : mayTx cs os
  · have HT := Lib.hid hT
    have HA := Lib.hid hA
    have HB := Lib.hid hB
    have HS := Lib.hid hs
    clear hT hA hB hs
    go_enter Try.func43, Try.ntmps43
    go_wp2_with fail
    have Bw := Lib.hid (show Below w.heap.size w (w.alloc (.cells #[.slice A cs.length ca, .slice B os.length cb] 34)) from below_alloc (Below.refl _ _) (.cells #[.slice A cs.length ca, .slice B os.length cb] 34))
    have HP1 := Lib.hid (heap_alloc_new w (.cells #[.slice A cs.length ca, .slice B os.length cb] 34))
    generalize w.alloc (.cells #[.slice A cs.length ca, .slice B os.length cb] 34) = w1 at *
    refine (mayTxn_all A ca cs B cb os w1 hca (Kd.C_below HA.out Bw.out) hcb (Kd.C_below HB.out Bw.out) HS.out).mono ?_
    rintro e w2 ⟨rfl, hb2⟩
    have HP2 := Lib.hid ((hb2.block _ (blk_lt HP1.out)).trans HP1.out)
    have B2 := Lib.hid (below_next0 Bw.out hb2)
    clear hb2 Bw HP1
    rw [hm]
    go_wp2
    go_ret3
    exact ⟨_, t, ad, c, rfl, Kd.R_nil _ _ _ _ _, HT.out.below B2.out, Kb.of_below B2.out tb, fun _ _ _ q hq => (by cases hq), fun _ _ hn => .inl ⟨rfl, hn⟩⟩
  · have hl := mayTx_len hm
    cases hh : holdsL cs m.row
    · have hD : doM true cs os m = (m, [], false, 0) := by unfold doM; simp [hh]
      rw [hD]
      have HT := Lib.hid hT
      have HA := Lib.hid hA
      have HB := Lib.hid hB
      have HS := Lib.hid hs
      clear hT hA hB hs
      go_enter Try.func43, Try.ntmps43
      go_wp2_with fail
      have Bw := Lib.hid (show Below w.heap.size w (w.alloc (.cells #[.slice A cs.length ca, .slice B os.length cb] 34)) from below_alloc (Below.refl _ _) (.cells #[.slice A cs.length ca, .slice B os.length cb] 34))
      have HP1 := Lib.hid (heap_alloc_new w (.cells #[.slice A cs.length ca, .slice B os.length cb] 34))
      generalize w.alloc (.cells #[.slice A cs.length ca, .slice B os.length cb] 34) = w1 at *
      refine (mayTxn_all A ca cs B cb os w1 hca (Kd.C_below HA.out Bw.out) hcb (Kd.C_below HB.out Bw.out) HS.out).mono ?_
      rintro e w2 ⟨rfl, hb2⟩
      have HP2 := Lib.hid ((hb2.block _ (blk_lt HP1.out)).trans HP1.out)
      have B2 := Lib.hid (below_next0 Bw.out hb2)
      clear hb2 Bw HP1
      rw [hm]
      have a0 := blk_cell HP2.out 0
      have a1 := blk_cell HP2.out 1
      simp only [List.getElem?_toArray, List.getElem?_cons_zero, List.getElem?_cons_succ] at a0 a1
      have al := blk_lt HP2.out
      go_wp2_with fail
      clear a0 a1 al
      refine (holds_any tb t m ad c w2 (HT.out.below B2.out) A ca cs hca (Kd.C_below HA.out B2.out) (by omega)).mono ?_
      rintro e w3 ⟨rfl, hb3⟩
      have HP3 := Lib.hid ((hb3.block _ (blk_lt HP2.out)).trans HP2.out)
      have B3 := Lib.hid (below_next0 B2.out hb3)
      clear hb3 HP2 B2
      have HT3 := Lib.hid (HT.out.below B3.out)
      have HB3 := Lib.hid HT3.out.blk
      rw [hh]
      go_wp2
      go_ret3
      exact ⟨_, t, ad, c, rfl, Kd.R_nil _ _ _ _ _, HT.out.below B3.out, Kb.of_below B3.out tb, fun _ _ _ q hq => (by cases hq), fun _ _ hn => .inl ⟨rfl, hn⟩⟩
    · by_cases ho : os.length = 0
      · have e1 : ((os.length : Int) == 0) = true := by rw [ho]; rfl
        have E1 := Lib.hid e1
        have hD : doM true cs os m = (m, [], true, 0) := by unfold doM; simp [hh, List.length_eq_zero_iff.1 ho]
        rw [hD]
        clear hD ho e1
        have HT := Lib.hid hT
        have HA := Lib.hid hA
        have HB := Lib.hid hB
        have HS := Lib.hid hs
        clear hT hA hB hs
        go_enter Try.func43, Try.ntmps43
        go_wp2_with fail
        have Bw := Lib.hid (show Below w.heap.size w (w.alloc (.cells #[.slice A cs.length ca, .slice B os.length cb] 34)) from below_alloc (Below.refl _ _) (.cells #[.slice A cs.length ca, .slice B os.length cb] 34))
        have HP1 := Lib.hid (heap_alloc_new w (.cells #[.slice A cs.length ca, .slice B os.length cb] 34))
        generalize w.alloc (.cells #[.slice A cs.length ca, .slice B os.length cb] 34) = w1 at *
        refine (mayTxn_all A ca cs B cb os w1 hca (Kd.C_below HA.out Bw.out) hcb (Kd.C_below HB.out Bw.out) HS.out).mono ?_
        rintro e w2 ⟨rfl, hb2⟩
        have HP2 := Lib.hid ((hb2.block _ (blk_lt HP1.out)).trans HP1.out)
        have B2 := Lib.hid (below_next0 Bw.out hb2)
        clear hb2 Bw HP1
        rw [hm]
        have a0 := blk_cell HP2.out 0
        have a1 := blk_cell HP2.out 1
        simp only [List.getElem?_toArray, List.getElem?_cons_zero, List.getElem?_cons_succ] at a0 a1
        have al := blk_lt HP2.out
        go_wp2_with fail
        clear a0 a1 al
        refine (holds_any tb t m ad c w2 (HT.out.below B2.out) A ca cs hca (Kd.C_below HA.out B2.out) (by omega)).mono ?_
        rintro e w3 ⟨rfl, hb3⟩
        have HP3 := Lib.hid ((hb3.block _ (blk_lt HP2.out)).trans HP2.out)
        have B3 := Lib.hid (below_next0 B2.out hb3)
        clear hb3 HP2 B2
        have HT3 := Lib.hid (HT.out.below B3.out)
        have HB3 := Lib.hid HT3.out.blk
        rw [hh]
        have a0 := blk_cell HP3.out 0
        have a1 := blk_cell HP3.out 1
        simp only [List.getElem?_toArray, List.getElem?_cons_zero, List.getElem?_cons_succ] at a0 a1
        have al := blk_lt HP3.out
        have e1 := E1.out
        go_wp2
        go_ret3
        exact ⟨_, t, ad, c, rfl, Kd.R_nil _ _ _ _ _, HT.out.below B3.out, Kb.of_below B3.out tb, fun _ _ _ q hq => (by cases hq), fun _ _ hn => .inl ⟨rfl, hn⟩⟩
      · have e1 : ((os.length : Int) == 0) = false := beq_eq_false_iff_ne.2 (by omega)
        have E1 := Lib.hid e1
        have ho' : os ≠ [] := fun e => ho (by rw [e]; rfl)
        by_cases hr : m.rev = 1099511627776
        · have e2 : (m.rev == 1099511627776) = true := by rw [hr]; rfl
          have E2 := Lib.hid e2
          have hD : doM true cs os m = (m, [], false, 40) := by unfold doM; simp [hh, ho', hr]
          rw [hD]
          clear hD ho ho' hr e1 e2
          have HT := Lib.hid hT
          have HA := Lib.hid hA
          have HB := Lib.hid hB
          have HS := Lib.hid hs
          clear hT hA hB hs
          go_enter Try.func43, Try.ntmps43
          go_wp2_with fail
          have Bw := Lib.hid (show Below w.heap.size w (w.alloc (.cells #[.slice A cs.length ca, .slice B os.length cb] 34)) from below_alloc (Below.refl _ _) (.cells #[.slice A cs.length ca, .slice B os.length cb] 34))
          have HP1 := Lib.hid (heap_alloc_new w (.cells #[.slice A cs.length ca, .slice B os.length cb] 34))
          generalize w.alloc (.cells #[.slice A cs.length ca, .slice B os.length cb] 34) = w1 at *
          refine (mayTxn_all A ca cs B cb os w1 hca (Kd.C_below HA.out Bw.out) hcb (Kd.C_below HB.out Bw.out) HS.out).mono ?_
          rintro e w2 ⟨rfl, hb2⟩
          have HP2 := Lib.hid ((hb2.block _ (blk_lt HP1.out)).trans HP1.out)
          have B2 := Lib.hid (below_next0 Bw.out hb2)
          clear hb2 Bw HP1
          rw [hm]
          have a0 := blk_cell HP2.out 0
          have a1 := blk_cell HP2.out 1
          simp only [List.getElem?_toArray, List.getElem?_cons_zero, List.getElem?_cons_succ] at a0 a1
          have al := blk_lt HP2.out
          go_wp2_with fail
          clear a0 a1 al
          refine (holds_any tb t m ad c w2 (HT.out.below B2.out) A ca cs hca (Kd.C_below HA.out B2.out) (by omega)).mono ?_
          rintro e w3 ⟨rfl, hb3⟩
          have HP3 := Lib.hid ((hb3.block _ (blk_lt HP2.out)).trans HP2.out)
          have B3 := Lib.hid (below_next0 B2.out hb3)
          clear hb3 HP2 B2
          have HT3 := Lib.hid (HT.out.below B3.out)
          have HB3 := Lib.hid HT3.out.blk
          rw [hh]
          have a0 := blk_cell HP3.out 0
          have a1 := blk_cell HP3.out 1
          simp only [List.getElem?_toArray, List.getElem?_cons_zero, List.getElem?_cons_succ] at a0 a1
          have al := blk_lt HP3.out
          have d0 := blk_cell HB3.out 0
          have d1 := blk_cell HB3.out 1
          have d2 := blk_cell HB3.out 2
          have d3 := blk_cell HB3.out 3
          have d4 := blk_cell HB3.out 4
          simp only [List.getElem?_toArray, List.getElem?_cons_zero, List.getElem?_cons_succ] at d0 d1 d2 d3 d4
          have dl := blk_lt HB3.out
          have e1 := E1.out
          have e2 := E2.out
          go_wp2
          go_ret3
          exact ⟨_, t, ad, c, rfl, Kd.R_nil _ _ _ _ _, HT.out.below B3.out, Kb.of_below B3.out tb, fun _ _ _ q hq => (by cases hq), fun _ _ hn => .inl ⟨rfl, hn⟩⟩
        · have e2 : (m.rev == 1099511627776) = false := beq_eq_false_iff_ne.2 hr
          have hD := do_ops hh ho' hr
          rw [hD]
          have HD := Lib.hid hD
          clear hD
          have hw : wrap64 (m.rev + 1) = m.rev + 1 := by have := hT.ok.lo; unfold wrap64; omega
          have HO := Lib.hid ho'
          have HR := Lib.hid hr
          have E2 := Lib.hid e2
          have HW := Lib.hid hw
          clear ho' ho hr e1 e2 hw
          have HT := Lib.hid hT
          have HA := Lib.hid hA
          have HB := Lib.hid hB
          have HS := Lib.hid hs
          clear hT hA hB hs
          go_enter Try.func43, Try.ntmps43
          go_wp2_with fail
          have Bw := Lib.hid (show Below w.heap.size w (w.alloc (.cells #[.slice A cs.length ca, .slice B os.length cb] 34)) from below_alloc (Below.refl _ _) (.cells #[.slice A cs.length ca, .slice B os.length cb] 34))
          have HP1 := Lib.hid (heap_alloc_new w (.cells #[.slice A cs.length ca, .slice B os.length cb] 34))
          generalize w.alloc (.cells #[.slice A cs.length ca, .slice B os.length cb] 34) = w1 at *
          refine (mayTxn_all A ca cs B cb os w1 hca (Kd.C_below HA.out Bw.out) hcb (Kd.C_below HB.out Bw.out) HS.out).mono ?_
          rintro e w2 ⟨rfl, hb2⟩
          have HP2 := Lib.hid ((hb2.block _ (blk_lt HP1.out)).trans HP1.out)
          have B2 := Lib.hid (below_next0 Bw.out hb2)
          clear hb2 Bw HP1
          rw [hm]
          have a0 := blk_cell HP2.out 0
          have a1 := blk_cell HP2.out 1
          simp only [List.getElem?_toArray, List.getElem?_cons_zero, List.getElem?_cons_succ] at a0 a1
          have al := blk_lt HP2.out
          go_wp2_with fail
          clear a0 a1 al
          refine (holds_any tb t m ad c w2 (HT.out.below B2.out) A ca cs hca (Kd.C_below HA.out B2.out) (by omega)).mono ?_
          rintro e w3 ⟨rfl, hb3⟩
          have HP3 := Lib.hid ((hb3.block _ (blk_lt HP2.out)).trans HP2.out)
          have B3 := Lib.hid (below_next0 B2.out hb3)
          clear hb3 HP2 B2
          have HT3 := Lib.hid (HT.out.below B3.out)
          have HB3 := Lib.hid HT3.out.blk
          rw [hh]
          have a0 := blk_cell HP3.out 0
          have a1 := blk_cell HP3.out 1
          simp only [List.getElem?_toArray, List.getElem?_cons_zero, List.getElem?_cons_succ] at a0 a1
          have al := blk_lt HP3.out
          have d0 := blk_cell HB3.out 0
          have d1 := blk_cell HB3.out 1
          have d2 := blk_cell HB3.out 2
          have d3 := blk_cell HB3.out 3
          have d4 := blk_cell HB3.out 4
          have df0 := blk_frozen HB3.out 0
          have df1 := blk_frozen HB3.out 1
          have df2 := blk_frozen HB3.out 2
          have df3 := blk_frozen HB3.out 3
          have df4 := blk_frozen HB3.out 4
          simp only [List.getElem?_toArray, List.getElem?_cons_zero, List.getElem?_cons_succ] at d0 d1 d2 d3 d4
          have dl := blk_lt HB3.out
          have e1 := E1.out
          have e2 := E2.out
          have hw := HW.out
          have nPT : w.heap.size ≠ tb := far_type HB3.out HP3.out (by decide)
          go_wp2_with fail
          clear a0 a1 al
          clear d0 d1 d2 d3 d4 df0 df1 df2 df3 df4 dl
          have K4 := Lib.hid (show Kb tb w (w3.setCell ⟨tb, 2, none⟩ (.int .i64 (m.rev + 1))) from (Kb.of_below B3.out tb).set 2 _)
          have A4 := Lib.hid (show At (w3.setCell ⟨tb, 2, none⟩ (.int .i64 (m.rev + 1))) tb t ⟨m.row, m.rev + 1, m.low, m.hap⟩ ad c from HT.out.remade K4.out rfl (blk_put (cs := #[.pointer t.adr, .int .i64 (m.row.length : Int), .int .i64 m.rev, .int .i64 m.low, .slice ad m.hap.length c]) HB3.out 2 (.int .i64 (m.rev + 1)) rfl) (HT3.out.ins.kb HB3.out (by decide) ((Kb.refl tb w3).set 2 _)) HT.out.tall HT.out.row (ok_up HT.out.ok HR.out))
          have hlt : tb < w.heap.size := blk_lt HT.out.blk
          clear HP3 B3 HT3 HB3 nPT e1 e2 hw
          generalize (w3.setCell ⟨tb, 2, none⟩ (.int .i64 (m.rev + 1))) = w4 at *
          go_loopw [4, 43] (fun ev i wr => ∃ (k : Nat) (tk : AT), k ≤ os.length ∧ i = .int .i64 k ∧ Hid (At wr tb tk ⟨(opsL (m.rev + 1) (os.take k) m.row).1, m.rev + 1, m.low, m.hap⟩ ad c) ∧ Hid (Kb tb w wr) ∧ Hid (kEvt.R 60 wr w.heap.size (fun _ => True) ev (opsL (m.rev + 1) (os.take k) m.row).2)) (fun _ i _ => os.length - (intOf i).toNat)
          case atStart => exact ⟨0, t, by omega, rfl, A4, K4, Lib.hid (Kd.R_nil _ _ _ _ _)⟩
          case round =>
            obtain ⟨k, tk, hk, rfl, HAk, HKk, HRk⟩ := hrel
            by_cases hlt2 : k < os.length
            · have hOk := opn_kb HB.out HT.out.blk HKk.out
              obtain ⟨ab, rfl, f0, f1, f2⟩ := at_Opn hOk hlt2
              have i0 : (0 : Int) ≤ (k : Int) := by omega
              have i1 : (k : Int) < (os.length : Int) := by omega
              clear hOk
              go_wp2_with fail
              clear f0 f1 f2
              obtain ⟨xb, hxb⟩ : ∃ xb, xb = wr.heap.size := ⟨_, rfl⟩
              have hx0 : w.heap.size ≤ xb := by rw [hxb]; exact HKk.out.size
              try rw [← hxb]
              have B5 := Lib.hid (show Below wr.heap.size wr (wr.alloc (.cells #[.bool os[k].del, .string os[k].key, .string os[k].val] 85)) from below_alloc (Below.refl _ _) (.cells #[.bool os[k].del, .string os[k].key, .string os[k].val] 85))
              have HX5 := Lib.hid (show (wr.alloc (.cells #[.bool os[k].del, .string os[k].key, .string os[k].val] 85)).heap[xb]? = some (.cells #[.bool os[k].del, .string os[k].key, .string os[k].val] 85 (0, 0)) from hxb ▸ heap_alloc_new wr (.cells #[.bool os[k].del, .string os[k].key, .string os[k].val] 85))
              have A5 := Lib.hid (HAk.out.below B5.out)
              have K5 := Lib.hid (HKk.out.then_below B5.out)
              have R5 := Lib.hid (Kd.R_alloc HRk.out (.cells #[.bool os[k].del, .string os[k].key, .string os[k].val] 85))
              clear HAk HKk HRk B5 hxb
              generalize wr.alloc (.cells #[.bool os[k].del, .string os[k].key, .string os[k].val] 85) = w5 at *
              have hbd : (opsL (m.rev + 1) (os.take k) m.row).1.length ≤ 200000000 ∧ (opsL (m.rev + 1) (os.take k) m.row).2.length ≤ 100000000 := by (have := opsL_le (rev := m.rev + 1) (os := os.take k) (l := m.row); rw [List.length_take] at this; omega)
              have hpos : 1 ≤ m.rev + 1 := by have := HT.out.ok.lo; omega
              have hsn : opsL (m.rev + 1) (os.take (k + 1)) m.row = ((opL (m.rev + 1) os[k] (opsL (m.rev + 1) (os.take k) m.row).1).1, (opsL (m.rev + 1) (os.take k) m.row).2 ++ (opL (m.rev + 1) os[k] (opsL (m.rev + 1) (os.take k) m.row).1).2) := by rw [take_snoc hlt2]; exact opsL_snoc
              have HSN := Lib.hid hsn
              clear hsn
              have hcall := op_any os[k] tb tk _ ad c w5 A5.out hpos hbd.1
              dsimp only at hcall
              have HC := Lib.hid hcall
              clear hcall
              refine HC.out.mono ?_
              clear HC
              rintro e w6 ⟨t6, rfl, hA6, hK6⟩
              have A6 := Lib.hid hA6
              have K6 := Lib.hid (K5.out.trans hK6)
              have HX6 := Lib.hid (hK6.blk HX5.out (far_type A5.out.blk HX5.out (by decide)))
              have R6 := Lib.hid (R_kb R5.out hK6 hlt)
              clear hA6 hK6 A5 K5 HX5 R5
              have HSN' := HSN.out
              rcases opL_evs (rev := m.rev + 1) (o := os[k]) (l := (opsL (m.rev + 1) (os.take k) m.row).1) with hev | hev
              · rw [hev] at HSN' ⊢
                rw [List.append_nil] at HSN'
                have HE := Lib.hid HSN'
                clear HSN' hev HSN
                simp only [List.isEmpty_nil, Bool.not_true]
                go_wp2
                go_roundw
                case rel => exact ⟨k + 1, t6, by omega, by go_num, by rw [HE.out]; exact A6, K6, by rw [HE.out]; exact R6⟩
                case measure => simp [intOf]; omega
              · rw [hev] at HSN' ⊢
                have HE := Lib.hid HSN'
                clear HSN' hev HSN
                simp only [List.isEmpty_cons, Bool.not_false]
                go_wp2_with fail
                have hSB := Lib.hid (show ∀ W : World, W.heap[tb]? = w6.heap[tb]? → W.heap[xb]? = w6.heap[xb]? → (fun W => W.cell? ⟨tb, 2, none⟩ = some (.int .i64 (m.rev + 1)) ∧ W.cell? ⟨xb, 0, none⟩ = some (.bool os[k].del) ∧ W.cell? ⟨xb, 1, none⟩ = some (.string os[k].key) ∧ W.cell? ⟨xb, 2, none⟩ = some (.string os[k].val)) W from fun W h1 h2 => ⟨(blk_cell (h1.trans A6.out.blk) 2).trans rfl, (blk_cell (h2.trans HX6.out) 0).trans rfl, (blk_cell (h2.trans HX6.out) 1).trans rfl, (blk_cell (h2.trans HX6.out) 2).trans rfl⟩)
                refine wp_region_noPanic ?_
                refine wp_region_held_drew (S := fun W => W.cell? ⟨tb, 2, none⟩ = some (.int .i64 (m.rev + 1)) ∧ W.cell? ⟨xb, 0, none⟩ = some (.bool os[k].del) ∧ W.cell? ⟨xb, 1, none⟩ = some (.string os[k].key) ∧ W.cell? ⟨xb, 2, none⟩ = some (.string os[k].val)) (by kernel_rfl) (hSB.out _ rfl rfl) (fun hHeld => ?_)
                refine wTake 0 ?_
                refine wTake 1 ?_
                refine wTake 2 ?_
                refine wTake 3 ?_
                refine wTake 4 ?_
                refine wTake 5 ?_
                refine wTake 6 ?_
                refine wTake 7 ?_
                refine wTake 8 ?_
                refine wTake 9 ?_
                refine wTake 10 ?_
                refine wTake 11 ?_
                try simp only [Act.put, List.setIfInBounds_toArray, List.set_cons_zero, List.set_cons_succ]
                refine wpAnyH_ready (rs := [12]) (by kernel_rfl) (by simp) (AllReadyH.cons rfl (fun K hK => ?_) AllReadyH.nil)
                go_simp
                go_wp2_with fail
                refine hK.out _ _ (hSB.out _ (Below.heap_alloc _ _ _ (blk_lt A6.out.blk)) (Below.heap_alloc _ _ _ (blk_lt HX6.out))) (fun hHeld => ?_)
                clear hK K
                try simp only [Act.put, List.setIfInBounds_toArray, List.set_cons_zero, List.set_cons_succ]
                refine wpAnyH_ready (rs := [13]) (by kernel_rfl) (by simp) (AllReadyH.cons rfl (fun K hK => ?_) AllReadyH.nil)
                refine Kd.R_append_step kEvt (w0 := w6.drew) w.heap.size (by rfl) (.tmp 50) (.tmp 62) 54 60 (.agg #[.int .i64 0, .bool false, .string ⟨#[]⟩, .string ⟨#[]⟩]) 48 rfl Try.underlying54 infoEvt rfl (by decide) (by omega) _ (opsL (m.rev + 1) (os.take k) m.row).2 ⟨m.rev + 1, os[k].del, os[k].key, os[k].val⟩ [.int .i64 (m.rev + 1), .bool os[k].del, .string os[k].key, .string os[k].val] (fun _ => True) (fun _ => False) rfl rfl (kEvt_mkM _ _ _ _) (fun _ hk => hk.elim) (fun _ _ => trivial) (Kd.R_drew R6.out) (Below.refl _ _) (show w.heap.size ≤ w6.heap.size from K6.out.size) (by have := hbd.2; omega) ?_
                intro v1 w7 ho hb hg _
                have hty := Kd.R_typed (Kd.R_drew R6.out)
                have hba := Kd.R_base (Kd.R_drew R6.out)
                have nx : some xb ≠ _ := fun e => by obtain ⟨ds, hd⟩ := hty xb e.symm; rw [show w6.drew.heap[xb]? = _ from HX6.out] at hd; injection hd with hd; injection hd with _ hd; exact absurd hd (by decide)
                have A7 := Lib.hid (At.grown (A6.out.below (Below.refl _ _).drew) hg hty (fun a ha hn e => by have h3 := hba _ e.symm; have h4 := hap_lt HT.out.hap a ha hn; omega))
                have K7 := Lib.hid (Kb.grown K6.out.drew hg hba)
                have R7 := Lib.hid ho
                have hs7 : (fun W => W.cell? ⟨tb, 2, none⟩ = some (.int .i64 (m.rev + 1)) ∧ W.cell? ⟨xb, 0, none⟩ = some (.bool os[k].del) ∧ W.cell? ⟨xb, 1, none⟩ = some (.string os[k].key) ∧ W.cell? ⟨xb, 2, none⟩ = some (.string os[k].val)) w7 := ⟨(blk_cell A7.out.blk 2).trans rfl, (blk_cell ((hg.block _ (blk_lt HX6.out) nx).trans HX6.out) 0).trans rfl, (blk_cell ((hg.block _ (blk_lt HX6.out) nx).trans HX6.out) 1).trans rfl, (blk_cell ((hg.block _ (blk_lt HX6.out) nx).trans HX6.out) 2).trans rfl⟩
                clear ho hb hg hty hba nx
                refine hK.out _ _ hs7 (fun hHeld => ?_)
                clear hK K
                try simp only [Act.put, List.setIfInBounds_toArray, List.set_cons_zero, List.set_cons_succ]
                refine wTake 14 ?_
                try simp only [Act.put, List.setIfInBounds_toArray, List.set_cons_zero, List.set_cons_succ]
                refine wpAnyH_done (by kernel_rfl) ?_ _
                refine NoPanic.normal ?_
                clear hHeld hSB
                go_wp2
                go_roundw
                case rel => exact ⟨k + 1, t6, by omega, by go_num, by rw [HE.out]; exact A7, K7, by rw [HE.out]; exact R7⟩
                case measure => simp [intOf]; omega
            · obtain rfl : k = os.length := by omega
              rw [List.take_length] at HAk HRk
              have hbd : (opsL (m.rev + 1) os m.row).2.length ≤ 100000000 := by (have := opsL_le (rev := m.rev + 1) (os := os) (l := m.row); omega)
              have HOK := Lib.hid (ok_do HT.out.ok true cs os)
              have hok := HOK.out
              rw [HD.out] at hok
              have HOk := Lib.hid hok
              clear hok HOK HD
              obtain ⟨A2, c2, rfl, hle2, hC2⟩ := Kd.R_reads HRk.out
              have HC2 := Lib.hid hC2
              clear hC2
              have hcap := HAk.out.cap
              have hcI : (m.hap.length : Int) ≤ (c : Int) := by simp only at hcap; omega
              have h0I : (0 : Int) ≤ (m.hap.length : Int) := by omega
              clear hcap
              have HBk := Lib.hid HAk.out.blk
              go_wp2_with fail
              clear hlt2
              refine wp_region_noPanic ?_
              refine wp_region_held_drew (S := fun _ => True) (by kernel_rfl) (trivial) (fun hHeld => ?_)
              apply cut0H
              · intro REST
                have RE := Lib.hid REST
                clear REST
                have hHeld := hHeld
                refine wTake 0 ?_
                refine wTake 1 ?_
                refine wTake 2 ?_
                refine wTake 3 ?_
                refine wTake 5 ?_
                refine wTake 6 ?_
                refine wTake 7 ?_
                refine wTake 10 ?_
                refine wTake 11 ?_
                refine wTake 12 ?_
                refine wTake 16 ?_
                try simp only [Act.put, List.setIfInBounds_toArray, List.set_cons_zero, List.set_cons_succ]
                refine wpAnyH_ready (rs := [4, 8, 13]) (by kernel_rfl) (by simp) (AllReadyH.cons rfl (fun K hK => ?_) (AllReadyH.cons rfl (fun K hK => ?_) (AllReadyH.cons rfl (fun K hK => ?_) AllReadyH.nil)))
                · have zz : wr.drew.cell? ⟨tb, 4, none⟩ = some (.slice ad m.hap.length c) := (blk_cell (show wr.drew.heap[tb]? = _ from HBk.out) 4).trans rfl
                  go_simp
                  refine hK.out _ _ trivial (fun hHeld => ?_)
                  clear zz
                  clear hK K
                  try simp only [Act.put, List.setIfInBounds_toArray, List.set_cons_zero, List.set_cons_succ]
                  refine wpAnyH_ready (rs := [8, 13]) (by kernel_rfl) (by simp) (AllReadyH.cons rfl (fun K hK => ?_) (AllReadyH.cons rfl (fun K hK => ?_) AllReadyH.nil))
                  · have zz : wr.drew.cell? ⟨tb, 4, none⟩ = some (.slice ad m.hap.length c) := (blk_cell (show wr.drew.heap[tb]? = _ from HBk.out) 4).trans rfl
                    go_simp
                    refine hK.out _ _ trivial (fun hHeld => ?_)
                    clear zz
                    clear hK K
                    try simp only [Act.put, List.setIfInBounds_toArray, List.set_cons_zero, List.set_cons_succ]
                    refine wTake 9 ?_
                    try simp only [Act.put, List.setIfInBounds_toArray, List.set_cons_zero, List.set_cons_succ]
                    refine wpAnyH_ready (rs := [13]) (by kernel_rfl) (by simp) (AllReadyH.cons rfl (fun K hK => ?_) AllReadyH.nil)
                    have zz : wr.drew.cell? ⟨tb, 4, none⟩ = some (.slice ad m.hap.length c) := (blk_cell (show wr.drew.heap[tb]? = _ from HBk.out) 4).trans rfl
                    go_simp
                    refine hK.out _ _ trivial (fun hHeld => ?_)
                    clear zz
                    clear hK K
                    try simp only [Act.put, List.setIfInBounds_toArray, List.set_cons_zero, List.set_cons_succ]
                    refine wTake 14 ?_
                    refine wTake 15 ?_
                    try simp only [Act.put, List.setIfInBounds_toArray, List.set_cons_zero, List.set_cons_succ]
                    refine wpAnyH_cast (l' := #[true, true, true, true, true, true, true, true, true, true, true, true, true, true, true, true, true, false, false, false, false]) (by kernel_rfl) ?_
                    exact RE.out
                  · have zz : wr.drew.cell? ⟨tb, 4, none⟩ = some (.slice ad m.hap.length c) := (blk_cell (show wr.drew.heap[tb]? = _ from HBk.out) 4).trans rfl
                    go_simp
                    refine hK.out _ _ trivial (fun hHeld => ?_)
                    clear zz
                    clear hK K
                    try simp only [Act.put, List.setIfInBounds_toArray, List.set_cons_zero, List.set_cons_succ]
                    refine wTake 14 ?_
                    try simp only [Act.put, List.setIfInBounds_toArray, List.set_cons_zero, List.set_cons_succ]
                    refine wpAnyH_ready (rs := [8]) (by kernel_rfl) (by simp) (AllReadyH.cons rfl (fun K hK => ?_) AllReadyH.nil)
                    have zz : wr.drew.cell? ⟨tb, 4, none⟩ = some (.slice ad m.hap.length c) := (blk_cell (show wr.drew.heap[tb]? = _ from HBk.out) 4).trans rfl
                    go_simp
                    refine hK.out _ _ trivial (fun hHeld => ?_)
                    clear zz
                    clear hK K
                    try simp only [Act.put, List.setIfInBounds_toArray, List.set_cons_zero, List.set_cons_succ]
                    refine wTake 9 ?_
                    refine wTake 15 ?_
                    try simp only [Act.put, List.setIfInBounds_toArray, List.set_cons_zero, List.set_cons_succ]
                    refine wpAnyH_cast (l' := #[true, true, true, true, true, true, true, true, true, true, true, true, true, true, true, true, true, false, false, false, false]) (by kernel_rfl) ?_
                    exact RE.out
                · have zz : wr.drew.cell? ⟨tb, 4, none⟩ = some (.slice ad m.hap.length c) := (blk_cell (show wr.drew.heap[tb]? = _ from HBk.out) 4).trans rfl
                  go_simp
                  refine hK.out _ _ trivial (fun hHeld => ?_)
                  clear zz
                  clear hK K
                  try simp only [Act.put, List.setIfInBounds_toArray, List.set_cons_zero, List.set_cons_succ]
                  refine wTake 9 ?_
                  try simp only [Act.put, List.setIfInBounds_toArray, List.set_cons_zero, List.set_cons_succ]
                  refine wpAnyH_ready (rs := [4, 13]) (by kernel_rfl) (by simp) (AllReadyH.cons rfl (fun K hK => ?_) (AllReadyH.cons rfl (fun K hK => ?_) AllReadyH.nil))
                  · have zz : wr.drew.cell? ⟨tb, 4, none⟩ = some (.slice ad m.hap.length c) := (blk_cell (show wr.drew.heap[tb]? = _ from HBk.out) 4).trans rfl
                    go_simp
                    refine hK.out _ _ trivial (fun hHeld => ?_)
                    clear zz
                    clear hK K
                    try simp only [Act.put, List.setIfInBounds_toArray, List.set_cons_zero, List.set_cons_succ]
                    refine wpAnyH_ready (rs := [13]) (by kernel_rfl) (by simp) (AllReadyH.cons rfl (fun K hK => ?_) AllReadyH.nil)
                    have zz : wr.drew.cell? ⟨tb, 4, none⟩ = some (.slice ad m.hap.length c) := (blk_cell (show wr.drew.heap[tb]? = _ from HBk.out) 4).trans rfl
                    go_simp
                    refine hK.out _ _ trivial (fun hHeld => ?_)
                    clear zz
                    clear hK K
                    try simp only [Act.put, List.setIfInBounds_toArray, List.set_cons_zero, List.set_cons_succ]
                    refine wTake 14 ?_
                    refine wTake 15 ?_
                    try simp only [Act.put, List.setIfInBounds_toArray, List.set_cons_zero, List.set_cons_succ]
                    refine wpAnyH_cast (l' := #[true, true, true, true, true, true, true, true, true, true, true, true, true, true, true, true, true, false, false, false, false]) (by kernel_rfl) ?_
                    exact RE.out
                  · have zz : wr.drew.cell? ⟨tb, 4, none⟩ = some (.slice ad m.hap.length c) := (blk_cell (show wr.drew.heap[tb]? = _ from HBk.out) 4).trans rfl
                    go_simp
                    refine hK.out _ _ trivial (fun hHeld => ?_)
                    clear zz
                    clear hK K
                    try simp only [Act.put, List.setIfInBounds_toArray, List.set_cons_zero, List.set_cons_succ]
                    refine wTake 14 ?_
                    try simp only [Act.put, List.setIfInBounds_toArray, List.set_cons_zero, List.set_cons_succ]
                    refine wpAnyH_ready (rs := [4]) (by kernel_rfl) (by simp) (AllReadyH.cons rfl (fun K hK => ?_) AllReadyH.nil)
                    have zz : wr.drew.cell? ⟨tb, 4, none⟩ = some (.slice ad m.hap.length c) := (blk_cell (show wr.drew.heap[tb]? = _ from HBk.out) 4).trans rfl
                    go_simp
                    refine hK.out _ _ trivial (fun hHeld => ?_)
                    clear zz
                    clear hK K
                    try simp only [Act.put, List.setIfInBounds_toArray, List.set_cons_zero, List.set_cons_succ]
                    refine wTake 15 ?_
                    try simp only [Act.put, List.setIfInBounds_toArray, List.set_cons_zero, List.set_cons_succ]
                    refine wpAnyH_cast (l' := #[true, true, true, true, true, true, true, true, true, true, true, true, true, true, true, true, true, false, false, false, false]) (by kernel_rfl) ?_
                    exact RE.out
                · have zz : wr.drew.cell? ⟨tb, 4, none⟩ = some (.slice ad m.hap.length c) := (blk_cell (show wr.drew.heap[tb]? = _ from HBk.out) 4).trans rfl
                  go_simp
                  refine hK.out _ _ trivial (fun hHeld => ?_)
                  clear zz
                  clear hK K
                  try simp only [Act.put, List.setIfInBounds_toArray, List.set_cons_zero, List.set_cons_succ]
                  refine wTake 14 ?_
                  try simp only [Act.put, List.setIfInBounds_toArray, List.set_cons_zero, List.set_cons_succ]
                  refine wpAnyH_ready (rs := [4, 8]) (by kernel_rfl) (by simp) (AllReadyH.cons rfl (fun K hK => ?_) (AllReadyH.cons rfl (fun K hK => ?_) AllReadyH.nil))
                  · have zz : wr.drew.cell? ⟨tb, 4, none⟩ = some (.slice ad m.hap.length c) := (blk_cell (show wr.drew.heap[tb]? = _ from HBk.out) 4).trans rfl
                    go_simp
                    refine hK.out _ _ trivial (fun hHeld => ?_)
                    clear zz
                    clear hK K
                    try simp only [Act.put, List.setIfInBounds_toArray, List.set_cons_zero, List.set_cons_succ]
                    refine wpAnyH_ready (rs := [8]) (by kernel_rfl) (by simp) (AllReadyH.cons rfl (fun K hK => ?_) AllReadyH.nil)
                    have zz : wr.drew.cell? ⟨tb, 4, none⟩ = some (.slice ad m.hap.length c) := (blk_cell (show wr.drew.heap[tb]? = _ from HBk.out) 4).trans rfl
                    go_simp
                    refine hK.out _ _ trivial (fun hHeld => ?_)
                    clear zz
                    clear hK K
                    try simp only [Act.put, List.setIfInBounds_toArray, List.set_cons_zero, List.set_cons_succ]
                    refine wTake 9 ?_
                    refine wTake 15 ?_
                    try simp only [Act.put, List.setIfInBounds_toArray, List.set_cons_zero, List.set_cons_succ]
                    refine wpAnyH_cast (l' := #[true, true, true, true, true, true, true, true, true, true, true, true, true, true, true, true, true, false, false, false, false]) (by kernel_rfl) ?_
                    exact RE.out
                  · have zz : wr.drew.cell? ⟨tb, 4, none⟩ = some (.slice ad m.hap.length c) := (blk_cell (show wr.drew.heap[tb]? = _ from HBk.out) 4).trans rfl
                    go_simp
                    refine hK.out _ _ trivial (fun hHeld => ?_)
                    clear zz
                    clear hK K
                    try simp only [Act.put, List.setIfInBounds_toArray, List.set_cons_zero, List.set_cons_succ]
                    refine wTake 9 ?_
                    try simp only [Act.put, List.setIfInBounds_toArray, List.set_cons_zero, List.set_cons_succ]
                    refine wpAnyH_ready (rs := [4]) (by kernel_rfl) (by simp) (AllReadyH.cons rfl (fun K hK => ?_) AllReadyH.nil)
                    have zz : wr.drew.cell? ⟨tb, 4, none⟩ = some (.slice ad m.hap.length c) := (blk_cell (show wr.drew.heap[tb]? = _ from HBk.out) 4).trans rfl
                    go_simp
                    refine hK.out _ _ trivial (fun hHeld => ?_)
                    clear zz
                    clear hK K
                    try simp only [Act.put, List.setIfInBounds_toArray, List.set_cons_zero, List.set_cons_succ]
                    refine wTake 15 ?_
                    try simp only [Act.put, List.setIfInBounds_toArray, List.set_cons_zero, List.set_cons_succ]
                    refine wpAnyH_cast (l' := #[true, true, true, true, true, true, true, true, true, true, true, true, true, true, true, true, true, false, false, false, false]) (by kernel_rfl) ?_
                    exact RE.out
              by_cases hq : (opsL (m.rev + 1) os m.row).2 = []
              · have HQ := Lib.hid hq
                rw [hq] at HRk HC2 ⊢
                clear hq
                refine wpAnyH_ready (rs := [17]) (by kernel_rfl) (by simp) (AllReadyH.cons rfl (fun K hK => ?_) AllReadyH.nil)
                refine step_append (by rfl) (.tmp 80) (.tmp 81) 54 rfl rfl rfl (append_none ad m.hap.length HC2.out) ?_
                refine hK.out _ _ trivial (fun hHeld => ?_)
                clear hK K
                try simp only [Act.put, List.setIfInBounds_toArray, List.set_cons_zero, List.set_cons_succ]
                refine wTake 18 ?_
                refine wTake 19 ?_
                try simp only [Act.put, List.setIfInBounds_toArray, List.set_cons_zero, List.set_cons_succ]
                refine wpAnyH_ready (rs := [20]) (by kernel_rfl) (by simp) (AllReadyH.cons rfl (fun K hK => ?_) AllReadyH.nil)
                have zb := (show wr.drew.heap[tb]? = _ from HBk.out)
                have zf := blk_frozen zb 4
                have zz0 := (blk_cell zb 0).trans rfl
                have zz1 := (blk_cell zb 1).trans rfl
                have zz2 := (blk_cell zb 2).trans rfl
                have zz3 := (blk_cell zb 3).trans rfl
                have zz4 := (blk_cell zb 4).trans rfl
                go_simp
                clear zf zz0 zz1 zz2 zz3 zz4
                refine hK.out _ _ trivial (fun hHeld => ?_)
                clear hK K
                try simp only [Act.put, List.setIfInBounds_toArray, List.set_cons_zero, List.set_cons_succ]
                refine wpAnyH_done (by kernel_rfl) ?_ _
                refine NoPanic.normal ?_
                go_wp2
                go_ret3
                have hq := HQ.out
                rw [hq] at HOk ⊢
                rw [List.append_nil] at HOk
                have K9 := Lib.hid (show Kb tb wr (wr.drew.setCell ⟨tb, 4, none⟩ (.slice ad m.hap.length m.hap.length)) from ((Kb.refl tb wr).drew).set 4 _)
                rw [List.append_nil]
                exact ⟨_, tk, ad, m.hap.length, rfl, R_kb HRk.out K9.out hlt, ⟨blk_put (cs := #[.pointer tk.adr, .int .i64 ((opsL (m.rev + 1) os m.row).1.length : Int), .int .i64 (m.rev + 1), .int .i64 m.low, .slice ad m.hap.length c]) (show wr.drew.heap[tb]? = _ from HBk.out) 4 (.slice ad m.hap.length m.hap.length) rfl, HAk.out.ins.kb HBk.out (by decide) K9.out, HAk.out.tall, HAk.out.row, C_keep HAk.out.hap (fun a ha hn => K9.out.block _ (hap_lt HAk.out.hap a ha hn) (hap_far HAk.out.hap HBk.out a ha hn)), Nat.le_refl _, HOk.out⟩, HKk.out.trans K9.out, fun a ha hn q hq0 e => by (have h1 := Kd.R_base HRk.out q hq0; have h2 := hap_lt HT.out.hap a ha hn; omega), fun _ _ hn => .inl ⟨rfl, hn⟩⟩
              · obtain ⟨v8, w8, hrun, hR8, hg8⟩ := append_evs (w := wr.drew) (A := ad) (l := m.hap) (Kd.C_drew HAk.out.hap) (B := A2) (cb := c2) (l2 := (opsL (m.rev + 1) os m.row).2) (Kd.C_drew HC2.out) (List.length_pos_iff.2 hq) (by omega)
                have A8 := Lib.hid (At.grown (HAk.out.below (Below.refl _ _).drew) hg8 (fun k e => by cases e) (fun a _ _ e => by cases e))
                have K8 := Lib.hid (Kb.grown (g := tb) (W0 := wr) ((Kb.refl tb wr).drew) hg8 (fun k e => by cases e))
                obtain ⟨A9, c9, rfl, hle9, hC9⟩ := Kd.R_reads hR8
                have HN8 := Lib.hid (R_new hR8)
                have HC9 := Lib.hid hC9
                have R8 := Lib.hid (R_kb HRk.out K8.out hlt)
                clear hC9 hg8 hq
                refine wpAnyH_ready (rs := [17]) (by kernel_rfl) (by simp) (AllReadyH.cons rfl (fun K hK => ?_) AllReadyH.nil)
                refine step_append (by rfl) (.tmp 80) (.tmp 81) 54 rfl rfl rfl hrun ?_
                refine hK.out _ _ trivial (fun hHeld => ?_)
                clear hK K
                try simp only [Act.put, List.setIfInBounds_toArray, List.set_cons_zero, List.set_cons_succ]
                refine wTake 18 ?_
                refine wTake 19 ?_
                try simp only [Act.put, List.setIfInBounds_toArray, List.set_cons_zero, List.set_cons_succ]
                refine wpAnyH_ready (rs := [20]) (by kernel_rfl) (by simp) (AllReadyH.cons rfl (fun K hK => ?_) AllReadyH.nil)
                have zb := A8.out.blk
                have zf := blk_frozen zb 4
                have zz0 := (blk_cell zb 0).trans rfl
                have zz1 := (blk_cell zb 1).trans rfl
                have zz2 := (blk_cell zb 2).trans rfl
                have zz3 := (blk_cell zb 3).trans rfl
                have zz4 := (blk_cell zb 4).trans rfl
                go_simp
                clear zf zz0 zz1 zz2 zz3 zz4
                refine hK.out _ _ trivial (fun hHeld => ?_)
                clear hK K
                try simp only [Act.put, List.setIfInBounds_toArray, List.set_cons_zero, List.set_cons_succ]
                refine wpAnyH_done (by kernel_rfl) ?_ _
                refine NoPanic.normal ?_
                go_wp2
                go_ret3
                rw [← List.length_append]
                have K9 := Lib.hid (show Kb tb w8 (w8.setCell ⟨tb, 4, none⟩ (.slice A9 (m.hap ++ (opsL (m.rev + 1) os m.row).2).length c9)) from (Kb.refl tb w8).set 4 _)
                exact ⟨_, tk, A9, c9, rfl, R_kb R8.out K9.out hlt, ⟨blk_put (cs := #[.pointer tk.adr, .int .i64 ((opsL (m.rev + 1) os m.row).1.length : Int), .int .i64 (m.rev + 1), .int .i64 m.low, .slice ad m.hap.length c]) A8.out.blk 4 (.slice A9 (m.hap ++ (opsL (m.rev + 1) os m.row).2).length c9) rfl, A8.out.ins.kb A8.out.blk (by decide) K9.out, HAk.out.tall, HAk.out.row, C_keep HC9.out (fun a ha hn => K9.out.block _ (hap_lt HC9.out a ha hn) (hap_far HC9.out A8.out.blk a ha hn)), hle9, HOk.out⟩, HKk.out.trans (K8.out.trans K9.out), fun a ha hn q hq0 e => by (have h1 := HN8.out a ha hn; obtain ⟨_, h2⟩ := Kd.R_typed HRk.out q hq0; have h3 := blk_lt h2; have h4 : wr.heap.size ≤ a.block := h1; omega), fun a ha hn => .inr (Nat.le_trans HKk.out.size (HN8.out a ha hn))⟩
theorem do_any (tb : Nat) (t : AT) (m : Md) (ad : Option Addr) (c : Nat) (w : World) (hT : At w tb t m ad c) (A : Option Addr) (ca : Nat) (cs : List Cnd) (B : Option Addr) (cb : Nat) (os : List Opn) (hca : cs.length ≤ ca) (hA : Kd.C kCnd w A cs.length cs) (hcb : os.length ≤ cb) (hB : Kd.C kOpn w B os.length os)
    (hs : (∀ x ∈ cs, x.key.size ≤ 9223372036854775807) ∧ ∀ x ∈ os, x.key.size ≤ 9223372036854775807) (hr : m.row.length ≤ 100000000) (hh : m.hap.length ≤ 100000000) :
    Calls Try.prog 43 #[.pointer (some ⟨tb, 0, none⟩), .agg #[.slice A cs.length ca, .slice B os.length cb]] w fun e w' => ∃ V t' ad' c', e = .returned (.tuple #[V, .bool (doM (mayTx cs os) cs os m).2.2.1, .int .i64 (doM (mayTx cs os) cs os m).2.2.2]) ∧ kEvt.R 60 w' w.heap.size (fun _ => True) V (doM (mayTx cs os) cs os m).2.1 ∧ At w' tb t' (doM (mayTx cs os) cs os m).1 ad' c' ∧ Kb tb w w' :=
  (do_anyA tb t m ad c w hT A ca cs B cb os hca hA hcb hB hs hr hh).mono (fun e w' => by rintro ⟨V, t', ad', c', h1, h2, h3, h4, _⟩; exact ⟨V, t', ad', c', h1, h2, h3, h4⟩)
end Go.Proofs.Ytobanhbjkomieaa.TA
