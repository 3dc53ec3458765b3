import Derived.Test.YtobanhbjkomieaaVBSb
namespace Go.Proofs.Ytobanhbjkomieaa.TA
open Go Go.RowKit Go.Proofs.Ytobanhbjkomieaa.KP Go.Proofs.YtobanhbjkomieaaW.PrintWords Go.Proofs.YtobanhbjkomieaaW.PrintLast Go.Proofs.YtobanhbjkomieaaW.PrintMore
open Go.Proofs.Ytobanhbjkomieaa.RP (wTake wSkip wOne wpAnyH_cast below_next0)
set_option linter.unusedSimpArgs false
set_option linter.unusedVariables false
def anyQ (l : List Opn) (k : ByteArray) : Bool := l.any fun q => q.key.toList == k.toList
theorem anyQ_succ {l : List Opn} {j : Nat} (h : j < l.length) (k : ByteArray) : anyQ (l.take (j + 1)) k = (anyQ (l.take j) k || l[j].key.toList == k.toList) := by
  unfold anyQ
  rw [← List.take_append_getElem h, List.any_append]
  simp
theorem mayTx_c {cs : List Cnd} {os : List Opn} {k : Nat} (h : k < cs.length) (hb : badC cs[k] = true) : mayTx cs os = false := by
  unfold mayTx
  rw [List.any_eq_true.2 ⟨_, List.getElem_mem h, hb⟩]
  simp
theorem mayTx_o {cs : List Cnd} {os : List Opn} {k : Nat} (h : k < os.length) (hb : (mayO os[k] && !anyQ (os.take k) os[k].key) = false) : mayTx cs os = false := by
  have h1 : opsOk os (k + 1) = false := by rw [opsOk_succ h]; unfold anyQ at hb; rw [hb, Bool.and_false]
  unfold mayTx
  rw [opsOk_false (n := os.length) h h1]
  simp
theorem anyC_succ {cs : List Cnd} {k : Nat} (h : k < cs.length) : (cs.take (k + 1)).any badC = ((cs.take k).any badC || badC cs[k]) := by
  rw [← List.take_append_getElem h, List.any_append]
  simp
def anyB (l : List Cnd) : Bool := l.any badC
set_option maxHeartbeats 2000000 in
set_option maxRecDepth 100000 in
theorem mayRef_any (C : Option Addr) (cc : Nat) (cs : List Cnd) (O : Option Addr) (co : Nat) (os : List Opn) (w : World) (hcc : cs.length ≤ cc) (hC : Kd.C kCnd w C cs.length cs) (hco : os.length ≤ co) (hO : Kd.C kOpn w O os.length os) :
    Calls Try.prog 63 #[.agg #[.slice C cs.length cc, .slice O os.length co]] w fun e w' => e = .returned (.bool (mayTx cs os)) ∧ Below w.heap.size w w' := by
  have HC := Lib.hid hC
  have HO := Lib.hid hO
  clear hC hO
  by_cases h8 : 8 < (cs.length : Int)
  · have hf : mayTx cs os = false := by unfold mayTx; rw [decide_eq_false (by omega), Bool.false_and]
    rw [hf]
    go_enter Try.func63, Try.ntmps63
    go_wp2
    go_ret
    exact ⟨rfl, below_alloc (Below.refl _ _) _⟩
  · by_cases h9 : 8 < (os.length : Int)
    · have hf : mayTx cs os = false := by unfold mayTx; rw [decide_eq_false (by omega), Bool.false_and]
      rw [hf]
      go_enter Try.func63, Try.ntmps63
      go_wp2
      go_ret
      exact ⟨rfl, below_alloc (Below.refl _ _) _⟩
    · obtain ⟨b, hb⟩ : ∃ b, mayTx cs os = b := ⟨_, rfl⟩
      have hmc : ∀ k (h : k < cs.length), badC cs[k] = true → b = false := fun k h hx => hb.symm.trans (mayTx_c h hx)
      have hmo : ∀ k (h : k < os.length), (mayO os[k] && !anyQ (os.take k) os[k].key) = false → b = false := fun k h hx => hb.symm.trans (mayTx_o h hx)
      have hme : anyB cs = false → opsOk os os.length = true → b = true := fun h1 h2 => hb.symm.trans (by unfold mayTx; rw [show cs.any badC = false from h1, h2, decide_eq_true (by omega)]; rfl)
      rw [hb]
      have HMC := Lib.hid hmc
      have HMO := Lib.hid hmo
      have HME := Lib.hid hme
      clear hb hmc hmo hme
      go_enter Try.func63, Try.ntmps63
      go_wp2_with fail
      obtain ⟨pb, hpb⟩ : ∃ X, X = w.heap.size := ⟨_, rfl⟩
      try rw [← hpb]
      have B1 := Lib.hid (below_alloc (Below.refl w.heap.size w) (.cells #[.slice C cs.length cc, .slice O os.length co] 34))
      have HP := Lib.hid (show (w.alloc (.cells #[.slice C cs.length cc, .slice O os.length co] 34)).heap[pb]? = some (.cells #[.slice C cs.length cc, .slice O os.length co] 34 (0, 0)) from hpb ▸ heap_alloc_new w (.cells #[.slice C cs.length cc, .slice O os.length co] 34))
      clear hpb
      generalize w.alloc (.cells #[.slice C cs.length cc, .slice O os.length co] 34) = w1 at *
      go_loopw [3] (fun i wr => ∃ k : Nat, k ≤ cs.length ∧ i = .int .i64 k ∧ Hid (Below w1.heap.size w1 wr) ∧ Hid (anyB (cs.take k) = false)) (fun i _ => cs.length - (intOf i).toNat)
      case atStart => exact ⟨0, by omega, rfl, Lib.hid (Below.refl _ _), Lib.hid rfl⟩
      case round =>
        obtain ⟨k, hk, rfl, HB, HN⟩ := hrel
        have HP2 := Lib.hid ((HB.out.block _ (blk_lt HP.out)).trans HP.out)
        have z0 := (blk_cell HP2.out 0).trans rfl
        have z1 := (blk_cell HP2.out 1).trans rfl
        by_cases hlt : k < cs.length
        · have i0 : (0 : Int) ≤ (k : Int) := by omega
          have i1 : (k : Int) < (cs.length : Int) := by omega
          obtain ⟨ab, e0, f0, f1⟩ := at_Cnd (Kd.C_below HC.out (B1.out.trans (HB.out.mono B1.out.size))) hlt
          cases e0
          have hsn : anyB (cs.take (k + 1)) = (anyB (cs.take k) || badC cs[k]) := anyC_succ hlt
          rw [HN.out, Bool.false_or] at hsn
          have hmc := HMC.out k hlt
          obtain ⟨c, hx⟩ : ∃ c, cs[k] = c := ⟨_, rfl⟩
          rw [hx] at f0 f1 hsn hmc
          have HSN := Lib.hid hsn
          have HMK := Lib.hid hmc
          have HX := Lib.hid hx
          clear hx hsn hmc
          go_wp2_with fail
          clear f0 f1 z0 z1
          refine (refKey_big c.key wr).mono ?_
          rintro e w2 ⟨rfl, hd⟩
          have hd := hd.below
          have HB2 := Lib.hid (below_next0 HB.out hd)
          have HP3 := Lib.hid ((hd.block _ (blk_lt HP2.out)).trans HP2.out)
          clear hd
          have z0 := (blk_cell HP3.out 0).trans rfl
          have z1 := (blk_cell HP3.out 1).trans rfl
          obtain ⟨ab', e0, f0, f1⟩ := at_Cnd (Kd.C_below HC.out (B1.out.trans (HB2.out.mono B1.out.size))) hlt
          cases e0
          rw [HX.out] at f1
          clear f0
          cases hkb : isKey c.key.data.toList
          · go_wp2
            go_ret
            exact ⟨congrArg (fun b => Ending.returned (Value.bool b)) (HMK.out (by unfold badC; rw [hkb]; rfl)).symm, (B1.out.trans (HB2.out.mono B1.out.size))⟩
          · by_cases hm0 : c.mod < 0
            · go_wp2
              go_ret
              exact ⟨congrArg (fun b => Ending.returned (Value.bool b)) (HMK.out (by unfold badC; rw [hkb]; simp [mayR]; omega)).symm, (B1.out.trans (HB2.out.mono B1.out.size))⟩
            · by_cases hm1 : 1099511627776 < c.mod
              · go_wp2
                go_ret
                exact ⟨congrArg (fun b => Ending.returned (Value.bool b)) (HMK.out (by unfold badC; rw [hkb]; simp [mayR]; omega)).symm, (B1.out.trans (HB2.out.mono B1.out.size))⟩
              · go_wp2
                go_roundw
                case rel => exact ⟨k + 1, by omega, by go_num, HB2, Lib.hid (HSN.out.trans (by unfold badC; rw [hkb]; simp [mayR]; omega))⟩
                case measure => simp [intOf]; omega
        · obtain rfl : k = cs.length := by omega
          rw [List.take_length] at HN
          clear hlt hk
          obtain ⟨wq, rfl⟩ : ∃ wq, wq = wr := ⟨_, rfl⟩
          go_wp2_with fail
          clear z0 z1
          go_loopw [4] (fun i wr => ∃ k : Nat, k ≤ os.length ∧ i = .int .i64 k ∧ Hid (Below w1.heap.size w1 wr) ∧ Hid (opsOk os k = true)) (fun i _ => os.length - (intOf i).toNat)
          case atStart => exact ⟨0, by omega, rfl, HB, Lib.hid rfl⟩
          case round =>
            obtain ⟨k, hk, rfl, HB2, HN2⟩ := hrel
            obtain ⟨wp, rfl⟩ : ∃ wp, wp = wr := ⟨_, rfl⟩
            have HP3 := Lib.hid ((HB2.out.block _ (blk_lt HP.out)).trans HP.out)
            have z0 := (blk_cell HP3.out 0).trans rfl
            have z1 := (blk_cell HP3.out 1).trans rfl
            by_cases hlt : k < os.length
            · have i0 : (0 : Int) ≤ (k : Int) := by omega
              have i1 : (k : Int) < (os.length : Int) := by omega
              obtain ⟨ab, e0, f0, f1, f2⟩ := at_Opn (Kd.C_below HO.out (B1.out.trans (HB2.out.mono B1.out.size))) hlt
              cases e0
              have hsn : opsOk os (k + 1) = (opsOk os k && (mayO os[k] && !anyQ (os.take k) os[k].key)) := opsOk_succ hlt
              rw [HN2.out, Bool.true_and] at hsn
              have hmo := HMO.out k hlt
              obtain ⟨o, hx⟩ : ∃ o, os[k] = o := ⟨_, rfl⟩
              rw [hx] at f0 f1 f2 hsn hmo
              have HSN := Lib.hid hsn
              have HMK := Lib.hid hmo
              have HX := Lib.hid hx
              clear hx hsn hmo
              go_wp2_with fail
              clear f0 f1 f2 z0 z1
              refine (refKey_big o.key wp).mono ?_
              rintro e w2 ⟨rfl, hd⟩
              have hd := hd.below
              have HB4 := Lib.hid (below_next0 HB2.out hd)
              have HP4 := Lib.hid ((hd.block _ (blk_lt HP3.out)).trans HP3.out)
              clear hd
              have z0 := (blk_cell HP4.out 0).trans rfl
              have z1 := (blk_cell HP4.out 1).trans rfl
              obtain ⟨ab', e0, f0, f1, f2⟩ := at_Opn (Kd.C_below HO.out (B1.out.trans (HB4.out.mono B1.out.size))) hlt
              cases e0
              rw [HX.out] at f0 f1 f2
              clear f1
              obtain ⟨v0, hv0⟩ : ∃ v0, o.val.toList.isEmpty = v0 := ⟨_, rfl⟩
              cases hkb : isKey o.key.data.toList
              · go_wp2
                go_ret
                exact ⟨congrArg (fun b => Ending.returned (Value.bool b)) (HMK.out (by unfold mayO; rw [hkb]; simp)).symm, (B1.out.trans (HB4.out.mono B1.out.size))⟩
              · by_cases hm0 : (128 : Int) < (o.val.size : Int)
                · go_wp2
                  go_ret
                  exact ⟨congrArg (fun b => Ending.returned (Value.bool b)) (HMK.out (by unfold mayO; rw [hkb]; rw [decide_eq_false (show ¬ o.val.size ≤ 128 by omega)]; simp)).symm, (B1.out.trans (HB4.out.mono B1.out.size))⟩
                · cases hdel : o.del
                  · have hmo : mayO o = true := by unfold mayO; rw [hkb, hdel, decide_eq_true (show o.val.size ≤ 128 by omega)]; rfl
                    rw [hmo, Bool.true_and] at HSN HMK
                    have HMO2 := Lib.hid hmo
                    clear hmo
                    go_wp2_with fail
                    clear z0 z1 f0 f2
                    go_loopw [5] (fun i wr => ∃ j : Nat, j ≤ k ∧ i = .int .i64 j ∧ Hid (Below w1.heap.size w1 wr) ∧ Hid (anyQ (os.take j) o.key = false)) (fun i _ => k - (intOf i).toNat)
                    case atStart => exact ⟨0, by omega, rfl, HB4, Lib.hid rfl⟩
                    case round =>
                      obtain ⟨j, hj, rfl, HB5, HN5⟩ := hrel
                      have HP5 := Lib.hid ((HB5.out.block _ (blk_lt HP.out)).trans HP.out)
                      have z1 := (blk_cell HP5.out 1).trans rfl
                      by_cases hjk : j < k
                      · have j0 : (0 : Int) ≤ (j : Int) := by omega
                        have j1 : (j : Int) < (k : Int) := by omega
                        have j2 : (j : Int) < (os.length : Int) := by omega
                        have hjl : j < os.length := by omega
                        obtain ⟨ab5, e0, _, f1, _⟩ := at_Opn (Kd.C_below HO.out (B1.out.trans (HB5.out.mono B1.out.size))) hlt
                        cases e0
                        obtain ⟨ab6, e0, _, g1, _⟩ := at_Opn (Kd.C_below HO.out (B1.out.trans (HB5.out.mono B1.out.size))) hjl
                        cases e0
                        rw [HX.out] at f1
                        have hat := anyQ_succ hjl o.key
                        rw [HN5.out, Bool.false_or] at hat
                        obtain ⟨kj, hkj⟩ : ∃ kj, os[j].key = kj := ⟨_, rfl⟩
                        rw [hkj] at g1 hat
                        have HAT := Lib.hid hat
                        have HKJ := Lib.hid hkj
                        clear hat hkj
                        by_cases he : kj = o.key
                        · have k3 := beq_same he
                          have hat := HAT.out
                          rw [k3] at hat
                          have hbig : anyQ (os.take k) o.key = true := by (unfold anyQ at hat ⊢; obtain ⟨q, hq1, hq2⟩ := List.any_eq_true.1 hat; exact List.any_eq_true.2 ⟨q, (List.take_subset_take_left os (show j + 1 ≤ k by omega)) hq1, hq2⟩)
                          have HB0 := Lib.hid (HMK.out (by rw [hbig]; rfl))
                          clear he hat hbig
                          go_wp2_with fail
                          refine wp_region_noPanic ?_
                          refine wp_region_held_drew (S := fun W => W.cell? ⟨pb, 1, none⟩ = some (.slice (some ab) os.length co) ∧ W.cell? ⟨(ab.add (j * 3)).block, (ab.add (j * 3)).off + 1, none⟩ = some (.string kj) ∧ W.cell? ⟨(ab.add (k * 3)).block, (ab.add (k * 3)).off + 1, none⟩ = some (.string o.key)) (by kernel_rfl) (⟨z1, g1, f1⟩) (fun hHeld => ?_)
                          refine wTake 0 ?_
                          refine wTake 1 ?_
                          refine wTake 2 ?_
                          refine wTake 3 ?_
                          refine wTake 4 ?_
                          refine wTake 5 ?_
                          refine wTake 6 ?_
                          refine wTake 7 ?_
                          refine wTake 8 ?_
                          refine wTake 9 ?_
                          refine wTake 10 ?_
                          refine wTake 11 ?_
                          refine wTake 12 ?_
                          try simp only [Act.put, List.setIfInBounds_toArray, List.set_cons_zero, List.set_cons_succ]
                          refine wpAnyH_done (by kernel_rfl) ?_ _
                          refine NoPanic.normal ?_
                          clear hHeld z1 g1 f1
                          go_wp2
                          go_ret
                          exact ⟨congrArg (fun b => Ending.returned (Value.bool b)) (HB0.out).symm, below_drew (B1.out.trans (HB5.out.mono B1.out.size))⟩
                        · have k3 := beq_ne he
                          have hat := HAT.out
                          rw [k3] at hat
                          have HA2 := Lib.hid hat
                          clear he hat
                          go_wp2_with fail
                          refine wp_region_noPanic ?_
                          refine wp_region_held_drew (S := fun W => W.cell? ⟨pb, 1, none⟩ = some (.slice (some ab) os.length co) ∧ W.cell? ⟨(ab.add (j * 3)).block, (ab.add (j * 3)).off + 1, none⟩ = some (.string kj) ∧ W.cell? ⟨(ab.add (k * 3)).block, (ab.add (k * 3)).off + 1, none⟩ = some (.string o.key)) (by kernel_rfl) (⟨z1, g1, f1⟩) (fun hHeld => ?_)
                          refine wTake 0 ?_
                          refine wTake 1 ?_
                          refine wTake 2 ?_
                          refine wTake 3 ?_
                          refine wTake 4 ?_
                          refine wTake 5 ?_
                          refine wTake 6 ?_
                          refine wTake 7 ?_
                          refine wTake 8 ?_
                          refine wTake 9 ?_
                          refine wTake 10 ?_
                          refine wTake 11 ?_
                          refine wTake 12 ?_
                          try simp only [Act.put, List.setIfInBounds_toArray, List.set_cons_zero, List.set_cons_succ]
                          refine wpAnyH_done (by kernel_rfl) ?_ _
                          refine NoPanic.normal ?_
                          clear hHeld z1 g1 f1
                          go_wp2
                          go_roundw
                          case rel => exact ⟨j + 1, by omega, by go_num, Lib.hid (below_drew HB5.out), HA2⟩
                          case measure => simp [intOf]; omega
                      · obtain rfl : j = k := by omega
                        have hfin := HSN.out
                        rw [HN5.out] at hfin
                        have HF := Lib.hid hfin
                        clear hfin z1
                        go_wp2
                        go_roundw
                        case rel => exact ⟨j + 1, by omega, by go_num, HB5, Lib.hid (HF.out.trans rfl)⟩
                        case measure => simp [intOf]; omega
                  · cases v0
                    · have hv : ¬ o.val.toList = [] := fun e => by (rw [e] at hv0; cases hv0)
                      go_wp2
                      go_ret
                      exact ⟨congrArg (fun b => Ending.returned (Value.bool b)) (HMK.out (by unfold mayO; rw [hkb]; rw [hdel, decide_eq_true (show o.val.size ≤ 128 by omega), decide_eq_false hv]; rfl)).symm, (B1.out.trans (HB4.out.mono B1.out.size))⟩
                    · have hv : o.val.toList = [] := List.isEmpty_iff.1 hv0
                      have hmo : mayO o = true := by unfold mayO; rw [hkb, hdel, decide_eq_true (show o.val.size ≤ 128 by omega), decide_eq_true hv]; rfl
                      rw [hmo, Bool.true_and] at HSN HMK
                      have HMO2 := Lib.hid hmo
                      clear hmo
                      clear hv
                      go_wp2_with fail
                      clear z0 z1 f0 f2
                      go_loopw [5] (fun i wr => ∃ j : Nat, j ≤ k ∧ i = .int .i64 j ∧ Hid (Below w1.heap.size w1 wr) ∧ Hid (anyQ (os.take j) o.key = false)) (fun i _ => k - (intOf i).toNat)
                      case atStart => exact ⟨0, by omega, rfl, HB4, Lib.hid rfl⟩
                      case round =>
                        obtain ⟨j, hj, rfl, HB5, HN5⟩ := hrel
                        have HP5 := Lib.hid ((HB5.out.block _ (blk_lt HP.out)).trans HP.out)
                        have z1 := (blk_cell HP5.out 1).trans rfl
                        by_cases hjk : j < k
                        · have j0 : (0 : Int) ≤ (j : Int) := by omega
                          have j1 : (j : Int) < (k : Int) := by omega
                          have j2 : (j : Int) < (os.length : Int) := by omega
                          have hjl : j < os.length := by omega
                          obtain ⟨ab5, e0, _, f1, _⟩ := at_Opn (Kd.C_below HO.out (B1.out.trans (HB5.out.mono B1.out.size))) hlt
                          cases e0
                          obtain ⟨ab6, e0, _, g1, _⟩ := at_Opn (Kd.C_below HO.out (B1.out.trans (HB5.out.mono B1.out.size))) hjl
                          cases e0
                          rw [HX.out] at f1
                          have hat := anyQ_succ hjl o.key
                          rw [HN5.out, Bool.false_or] at hat
                          obtain ⟨kj, hkj⟩ : ∃ kj, os[j].key = kj := ⟨_, rfl⟩
                          rw [hkj] at g1 hat
                          have HAT := Lib.hid hat
                          have HKJ := Lib.hid hkj
                          clear hat hkj
                          by_cases he : kj = o.key
                          · have k3 := beq_same he
                            have hat := HAT.out
                            rw [k3] at hat
                            have hbig : anyQ (os.take k) o.key = true := by (unfold anyQ at hat ⊢; obtain ⟨q, hq1, hq2⟩ := List.any_eq_true.1 hat; exact List.any_eq_true.2 ⟨q, (List.take_subset_take_left os (show j + 1 ≤ k by omega)) hq1, hq2⟩)
                            have HB0 := Lib.hid (HMK.out (by rw [hbig]; rfl))
                            clear he hat hbig
                            go_wp2_with fail
                            refine wp_region_noPanic ?_
                            refine wp_region_held_drew (S := fun W => W.cell? ⟨pb, 1, none⟩ = some (.slice (some ab) os.length co) ∧ W.cell? ⟨(ab.add (j * 3)).block, (ab.add (j * 3)).off + 1, none⟩ = some (.string kj) ∧ W.cell? ⟨(ab.add (k * 3)).block, (ab.add (k * 3)).off + 1, none⟩ = some (.string o.key)) (by kernel_rfl) (⟨z1, g1, f1⟩) (fun hHeld => ?_)
                            refine wTake 0 ?_
                            refine wTake 1 ?_
                            refine wTake 2 ?_
                            refine wTake 3 ?_
                            refine wTake 4 ?_
                            refine wTake 5 ?_
                            refine wTake 6 ?_
                            refine wTake 7 ?_
                            refine wTake 8 ?_
                            refine wTake 9 ?_
                            refine wTake 10 ?_
                            refine wTake 11 ?_
                            refine wTake 12 ?_
                            try simp only [Act.put, List.setIfInBounds_toArray, List.set_cons_zero, List.set_cons_succ]
                            refine wpAnyH_done (by kernel_rfl) ?_ _
                            refine NoPanic.normal ?_
                            clear hHeld z1 g1 f1
                            go_wp2
                            go_ret
                            exact ⟨congrArg (fun b => Ending.returned (Value.bool b)) (HB0.out).symm, below_drew (B1.out.trans (HB5.out.mono B1.out.size))⟩
                          · have k3 := beq_ne he
                            have hat := HAT.out
                            rw [k3] at hat
                            have HA2 := Lib.hid hat
                            clear he hat
                            go_wp2_with fail
                            refine wp_region_noPanic ?_
                            refine wp_region_held_drew (S := fun W => W.cell? ⟨pb, 1, none⟩ = some (.slice (some ab) os.length co) ∧ W.cell? ⟨(ab.add (j * 3)).block, (ab.add (j * 3)).off + 1, none⟩ = some (.string kj) ∧ W.cell? ⟨(ab.add (k * 3)).block, (ab.add (k * 3)).off + 1, none⟩ = some (.string o.key)) (by kernel_rfl) (⟨z1, g1, f1⟩) (fun hHeld => ?_)
                            refine wTake 0 ?_
                            refine wTake 1 ?_
                            refine wTake 2 ?_
                            refine wTake 3 ?_
                            refine wTake 4 ?_
                            refine wTake 5 ?_
                            refine wTake 6 ?_
                            refine wTake 7 ?_
                            refine wTake 8 ?_
                            refine wTake 9 ?_
                            refine wTake 10 ?_
                            refine wTake 11 ?_
                            refine wTake 12 ?_
                            try simp only [Act.put, List.setIfInBounds_toArray, List.set_cons_zero, List.set_cons_succ]
                            refine wpAnyH_done (by kernel_rfl) ?_ _
                            refine NoPanic.normal ?_
                            clear hHeld z1 g1 f1
                            go_wp2
                            go_roundw
                            case rel => exact ⟨j + 1, by omega, by go_num, Lib.hid (below_drew HB5.out), HA2⟩
                            case measure => simp [intOf]; omega
                        · obtain rfl : j = k := by omega
                          have hfin := HSN.out
                          rw [HN5.out] at hfin
                          have HF := Lib.hid hfin
                          clear hfin z1
                          go_wp2
                          go_roundw
                          case rel => exact ⟨j + 1, by omega, by go_num, HB5, Lib.hid (HF.out.trans rfl)⟩
                          case measure => simp [intOf]; omega
            · obtain rfl : k = os.length := by omega
              go_wp2
              go_ret
              exact ⟨congrArg (fun b => Ending.returned (Value.bool b)) (HME.out HN.out HN2.out).symm, (B1.out.trans (HB2.out.mono B1.out.size))⟩
end Go.Proofs.Ytobanhbjkomieaa.TA
