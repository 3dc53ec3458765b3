import Derived.Test.YtobanhbjkomieaaVBSb
namespace Go.Proofs.Ytobanhbjkomieaa.TA
open Go Go.RowKit Go.Proofs.Ytobanhbjkomieaa.KP Go.Proofs.YtobanhbjkomieaaW.PrintWords Go.Proofs.YtobanhbjkomieaaW.PrintLast Go.Proofs.YtobanhbjkomieaaW.PrintMore
open Go.Proofs.Ytobanhbjkomieaa.RP (wTake wSkip wOne wpAnyH_cast below_next0)
set_option linter.unusedSimpArgs false
set_option linter.unusedVariables false
theorem sinceL_snocR {p : ByteArray} {n : Int} {l : List Evt} {x : Evt} : sinceL p n (l ++ [x]) = sinceL p n l ++ (if (decide (n ≤ x.rev) && p.data.toList.isPrefixOf x.key.data.toList) = true then [x] else []) := by
  unfold sinceL
  rw [List.filter_append]
  congr 1
  rw [List.filter_cons]
  rfl
theorem max2r (k k' : IntKind) (x y : Int) : Builtin.max2 (.int k x) (.int k' y) = pure (.int k (max x y)) := by
  have h : (if x < y then y else x) = max x y := by split <;> omega
  simp only [Builtin.max2, gt_iff_lt, h]
def cutL (n : Int) (l : List Evt) : List Evt := l.filter fun x => decide (n < x.rev)
theorem cutL_snoc {n : Int} {l : List Evt} {x : Evt} : cutL n (l ++ [x]) = cutL n l ++ (if n < x.rev then [x] else []) := by
  unfold cutL
  rw [List.filter_append]
  congr 1
  by_cases h : n < x.rev <;> simp [List.filter_cons, h]
theorem cutL_le (n : Int) (l : List Evt) : (cutL n l).length ≤ l.length := List.length_filter_le _ _
set_option maxHeartbeats 2000000 in
set_option maxRecDepth 100000 in
theorem sinceR_any (b : Nat) (m : Md) (A : Option Addr) (ca : Nat) (B : Option Addr) (cb : Nat) (w : World) (hT : Rt w b m A ca B cb) (hn : m.row.length ≤ 1000000000) (hok : Ok m) (p : ByteArray) (hp : p.size ≤ 9223372036854775807) (n : Int) (hh : m.hap.length ≤ 1000000000) :
    Calls Try.prog 138 #[.pointer (some ⟨b, 0, none⟩), .string p, .int .i64 n] w fun e w' => ∃ V, e = .returned (.tuple #[V, .int .i64 (sinceM (isPrefix p.data.toList) p n m).2]) ∧ kEvt.R 60 w' w.heap.size (fun _ => True) V (sinceM (isPrefix p.data.toList) p n m).1 ∧ Below w.heap.size w w' := by
  have HT := Lib.hid hT
  have hlo := hok.lo
  have hw : wrap64 (m.rev + 1) = m.rev + 1 := by (unfold wrap64; omega)
  clear hT hok
  cases hpre : isPrefix p.data.toList
  · have hS : sinceM false p n m = ([], 4) := rfl
    rw [hS]
    clear hS
    have HPRE := Lib.hid hpre
    clear hpre
    go_enter Try.func138, Try.ntmps138
    go_wp2_with fail
    have hcall := refPrefix_big p w
    rw [HPRE.out] at hcall
    refine hcall.mono ?_
    clear hcall
    rintro e w1 ⟨rfl, hd⟩
    have hb := hd.below
    clear hd
    have T_1 := Lib.hid (HT.out.below hb)
    have B_2 := Lib.hid (below_next0 (Below.refl w.heap.size w) hb)
    clear hb
    have z0 := (blk_cell T_1.out.blk 0).trans rfl
    have z1 := (blk_cell T_1.out.blk 1).trans rfl
    have z2 := (blk_cell T_1.out.blk 2).trans rfl
    have z3 := (blk_cell T_1.out.blk 3).trans rfl
    go_wp2
    go_ret2
    exact ⟨_, rfl, Kd.R_nil _ _ _ _ _, B_2.out⟩
  · by_cases h1 : n < 1
    · have hS : sinceM true p n m = ([], 1) := by unfold sinceM; simp [h1]
      rw [hS]
      clear hS
      have HPRE := Lib.hid hpre
      clear hpre
      go_enter Try.func138, Try.ntmps138
      go_wp2_with fail
      have hcall := refPrefix_big p w
      rw [HPRE.out] at hcall
      refine hcall.mono ?_
      clear hcall
      rintro e w1 ⟨rfl, hd⟩
      have hb := hd.below
      clear hd
      have T_1 := Lib.hid (HT.out.below hb)
      have B_2 := Lib.hid (below_next0 (Below.refl w.heap.size w) hb)
      clear hb
      have z0 := (blk_cell T_1.out.blk 0).trans rfl
      have z1 := (blk_cell T_1.out.blk 1).trans rfl
      have z2 := (blk_cell T_1.out.blk 2).trans rfl
      have z3 := (blk_cell T_1.out.blk 3).trans rfl
      go_wp2
      go_ret2
      exact ⟨_, rfl, Kd.R_nil _ _ _ _ _, B_2.out⟩
    · by_cases h2 : m.rev + 1 < n
      · have hS : sinceM true p n m = ([], 1) := by unfold sinceM; simp [h2]
        rw [hS]
        clear hS
        have HPRE := Lib.hid hpre
        clear hpre
        go_enter Try.func138, Try.ntmps138
        go_wp2_with fail
        have hcall := refPrefix_big p w
        rw [HPRE.out] at hcall
        refine hcall.mono ?_
        clear hcall
        rintro e w1 ⟨rfl, hd⟩
        have hb := hd.below
        clear hd
        have T_1 := Lib.hid (HT.out.below hb)
        have B_2 := Lib.hid (below_next0 (Below.refl w.heap.size w) hb)
        clear hb
        have z0 := (blk_cell T_1.out.blk 0).trans rfl
        have z1 := (blk_cell T_1.out.blk 1).trans rfl
        have z2 := (blk_cell T_1.out.blk 2).trans rfl
        have z3 := (blk_cell T_1.out.blk 3).trans rfl
        go_wp2
        go_ret2
        exact ⟨_, rfl, Kd.R_nil _ _ _ _ _, B_2.out⟩
      · by_cases h3 : n ≤ m.low
        · have hS : sinceM true p n m = ([], 52) := by unfold sinceM; simp [h1, h2, h3]
          rw [hS]
          clear hS
          have HPRE := Lib.hid hpre
          clear hpre
          go_enter Try.func138, Try.ntmps138
          go_wp2_with fail
          have hcall := refPrefix_big p w
          rw [HPRE.out] at hcall
          refine hcall.mono ?_
          clear hcall
          rintro e w1 ⟨rfl, hd⟩
          have hb := hd.below
          clear hd
          have T_1 := Lib.hid (HT.out.below hb)
          have B_2 := Lib.hid (below_next0 (Below.refl w.heap.size w) hb)
          clear hb
          have z0 := (blk_cell T_1.out.blk 0).trans rfl
          have z1 := (blk_cell T_1.out.blk 1).trans rfl
          have z2 := (blk_cell T_1.out.blk 2).trans rfl
          have z3 := (blk_cell T_1.out.blk 3).trans rfl
          go_wp2
          go_ret2
          exact ⟨_, rfl, Kd.R_nil _ _ _ _ _, B_2.out⟩
        · have hS : sinceM true p n m = (sinceL p n m.hap, 0) := by unfold sinceM; simp [h1, h2, h3]
          rw [hS]
          clear hS
          have HPRE := Lib.hid hpre
          clear hpre
          go_enter Try.func138, Try.ntmps138
          go_wp2_with fail
          have hcall := refPrefix_big p w
          rw [HPRE.out] at hcall
          refine hcall.mono ?_
          clear hcall
          rintro e w1 ⟨rfl, hd⟩
          have hb := hd.below
          clear hd
          have T_1 := Lib.hid (HT.out.below hb)
          have B_2 := Lib.hid (below_next0 (Below.refl w.heap.size w) hb)
          clear hb
          have z0 := (blk_cell T_1.out.blk 0).trans rfl
          have z1 := (blk_cell T_1.out.blk 1).trans rfl
          have z2 := (blk_cell T_1.out.blk 2).trans rfl
          have z3 := (blk_cell T_1.out.blk 3).trans rfl
          go_wp2_with fail
          clear z0 z1 z2 z3
          go_loopw [8, 9] (fun out i wr => ∃ k : Nat, k ≤ m.hap.length ∧ i = .int .i64 k ∧ Hid (Below w.heap.size w wr) ∧ Hid (kEvt.R 60 wr w.heap.size (fun _ => True) out (sinceL p n (m.hap.take k)))) (fun _ i _ => m.hap.length - (intOf i).toNat)
          case atStart => exact ⟨0, by omega, rfl, Lib.hid B_2.out, Lib.hid (Kd.R_nil _ _ _ _ _)⟩
          case round =>
            obtain ⟨k, hk, rfl, HB, HRk⟩ := hrel
            have HT2 := Lib.hid (HT.out.below HB.out)
            have z0 := (blk_cell HT2.out.blk 0).trans rfl
            have z1 := (blk_cell HT2.out.blk 1).trans rfl
            have z2 := (blk_cell HT2.out.blk 2).trans rfl
            have z3 := (blk_cell HT2.out.blk 3).trans rfl
            by_cases hlt : k < m.hap.length
            · have i0 : (0 : Int) ≤ (k : Int) := by omega
              have i1 : (k : Int) < (m.hap.length : Int) := by omega
              obtain ⟨ab, e0, f0, f1, f2, f3⟩ := at_Evt HT2.out.hap hlt
              cases e0
              have hsn : sinceL p n (m.hap.take (k + 1)) = sinceL p n (m.hap.take k) ++ (if (decide (n ≤ m.hap[k].rev) && p.data.toList.isPrefixOf m.hap[k].key.data.toList) = true then [m.hap[k]] else []) := by rw [← List.take_append_getElem hlt]; exact sinceL_snocR
              have hbd := Nat.le_trans (sinceL_le p n (m.hap.take k)) (List.length_take_le k m.hap)
              obtain ⟨x, hx⟩ : ∃ x, m.hap[k] = x := ⟨_, rfl⟩
              rw [hx] at f0 f1 f2 f3 hsn
              have HSN := Lib.hid hsn
              have HX := Lib.hid hx
              clear hx hsn
              by_cases hr : n ≤ x.rev
              · go_wp2_with fail
                clear z0 z1 z2 z3
                clear f0 f1 f2 f3
                refine (treeBegins_any x.key p wr).mono ?_
                rintro e w3 ⟨rfl, hd⟩
                have B3 := Lib.hid (below_next0 HB.out hd)
                have R3 := Lib.hid (Kd.R_below HRk.out hd)
                clear hd
                cases hb : p.data.toList.isPrefixOf x.key.data.toList
                · go_wp2
                  go_roundw
                  case rel => exact ⟨k + 1, by omega, by go_num, B3, by rw [HSN.out]; simpa [hr, hb] using R3⟩
                  case measure => simp [intOf]; omega
                · have HT4 := Lib.hid (HT.out.below B3.out)
                  have z0 := (blk_cell HT4.out.blk 0).trans rfl
                  have z1 := (blk_cell HT4.out.blk 1).trans rfl
                  have z2 := (blk_cell HT4.out.blk 2).trans rfl
                  have z3 := (blk_cell HT4.out.blk 3).trans rfl
                  obtain ⟨ab', e0, f0, f1, f2, f3⟩ := at_Evt HT4.out.hap hlt
                  cases e0
                  rw [HX.out] at f0 f1 f2 f3
                  go_wp2_with (at_builtin; refine Kd.R_append kEvt (w0 := w3) w.heap.size rfl (.tmp 61) (.tmp 69) 54 60 (.agg #[.int .i64 0, .bool false, .string ⟨#[]⟩, .string ⟨#[]⟩]) 48 rfl Try.underlying54 infoEvt rfl (by decide) (by omega) _ (sinceL p n (m.hap.take k)) x [.int .i64 x.rev, .bool x.del, .string x.key, .string x.val] (fun _ => True) (fun _ => False) rfl rfl (kEvt_mkM _ _ _ _) (fun _ hk => hk.elim) (fun _ _ => trivial) R3.out (Below.refl _ _) (show w.heap.size ≤ w3.heap.size from by exact B3.out.size) (by omega) ?_; intro v1 w4 ho hb4 hg _)
                  have R4 := Lib.hid ho
                  have B4 := Lib.hid (B3.out.trans hb4)
                  clear ho hb4 hg
                  go_roundw
                  case rel => exact ⟨k + 1, by omega, by go_num, B4, by rw [HSN.out]; simpa [hr, hb] using R4⟩
                  case measure => simp [intOf]; omega
              · go_wp2
                go_roundw
                case rel => exact ⟨k + 1, by omega, by go_num, HB, by rw [HSN.out]; simpa [hr] using HRk⟩
                case measure => simp [intOf]; omega
            · obtain rfl : k = m.hap.length := by omega
              rw [List.take_length] at HRk
              go_wp2
              go_ret2
              exact ⟨_, rfl, HRk.out, HB.out⟩
attribute [local go_sem] max2r max_two
set_option maxHeartbeats 2000000 in
set_option maxRecDepth 100000 in
theorem cutR_any (b : Nat) (m : Md) (A : Option Addr) (ca : Nat) (B : Option Addr) (cb : Nat) (w : World) (hT : Rt w b m A ca B cb) (hn : m.row.length ≤ 1000000000) (n : Int) (hh : m.hap.length ≤ 1000000000) :
    Calls Try.prog 64 #[.pointer (some ⟨b, 0, none⟩), .int .i64 n] w fun e w' => ∃ B' cb', e = .returned (.int .i64 (cutM n m).2) ∧ Rt w' b (cutM n m).1 A ca B' cb' ∧ Kb b w w' := by
  have HT := Lib.hid hT
  have lb : b < w.heap.size := blk_lt hT.blk
  clear hT
  by_cases h1 : n < 0
  · have hS : cutM n m = (m, 1) := by unfold cutM; simp [h1]
    rw [hS]
    clear hS
    go_enter Try.func64, Try.ntmps64
    have z0 := (blk_cell HT.out.blk 0).trans rfl
    have z1 := (blk_cell HT.out.blk 1).trans rfl
    have z2 := (blk_cell HT.out.blk 2).trans rfl
    have z3 := (blk_cell HT.out.blk 3).trans rfl
    go_wp2
    go_ret
    first | exact ⟨B, cb, rfl, HT.out, Kb.refl b w⟩ | exact ⟨rfl, ⟨B, cb, HT.out⟩, Kb.refl b w⟩
  · by_cases h2 : m.rev < n
    · have hS : cutM n m = (m, 1) := by unfold cutM; simp [h2]
      rw [hS]
      clear hS
      go_enter Try.func64, Try.ntmps64
      have z0 := (blk_cell HT.out.blk 0).trans rfl
      have z1 := (blk_cell HT.out.blk 1).trans rfl
      have z2 := (blk_cell HT.out.blk 2).trans rfl
      have z3 := (blk_cell HT.out.blk 3).trans rfl
      go_wp2
      go_ret
      first | exact ⟨B, cb, rfl, HT.out, Kb.refl b w⟩ | exact ⟨rfl, ⟨B, cb, HT.out⟩, Kb.refl b w⟩
    · obtain ⟨lo, hlo⟩ : ∃ lo, max m.low n = lo := ⟨_, rfl⟩
      have hS : cutM n m = (⟨m.row, m.rev, lo, cutL lo m.hap⟩, 0) := by (unfold cutM cutL; rw [← hlo]; simp [h1, h2])
      rw [hS]
      clear hS
      go_enter Try.func64, Try.ntmps64
      have z0 := (blk_cell HT.out.blk 0).trans rfl
      have z1 := (blk_cell HT.out.blk 1).trans rfl
      have z2 := (blk_cell HT.out.blk 2).trans rfl
      have z3 := (blk_cell HT.out.blk 3).trans rfl
      have zf := blk_frozen HT.out.blk 2
      go_wp2_with fail
      clear z0 z1 z2 z3 zf
      try rw [hlo]
      have hK : Kb b w (w.setCell ⟨b, 2, none⟩ (.int .i64 lo)) := (Kb.refl b _).set 2 _
      have hA : Rt (w.setCell ⟨b, 2, none⟩ (.int .i64 lo)) b ⟨m.row, m.rev, lo, m.hap⟩ A ca B cb := ⟨blk_put (cs' := rtC ⟨m.row, m.rev, lo, m.hap⟩ A ca B cb) HT.out.blk 2 (.int .i64 lo) rfl, rt_ent HT.out hK HT.out.row, rt_evt HT.out hK HT.out.hap, HT.out.cap⟩
      have HK := Lib.hid hK
      have HA := Lib.hid hA
      clear hK hA
      generalize (w.setCell ⟨b, 2, none⟩ (.int .i64 lo)) = wa at *
      go_loopw [5, 6] (fun out i wr => ∃ k : Nat, k ≤ m.hap.length ∧ i = .int .i64 k ∧ Hid (Below wa.heap.size wa wr) ∧ Hid (kEvt.R 60 wr wa.heap.size (fun _ => True) out (cutL lo (m.hap.take k)))) (fun _ i _ => m.hap.length - (intOf i).toNat)
      case atStart => exact ⟨0, by omega, rfl, Lib.hid (Below.refl _ _), Lib.hid (Kd.R_nil _ _ _ _ _)⟩
      case round =>
        obtain ⟨k, hk, rfl, HB, HRk⟩ := hrel
        have HT2 := Lib.hid (HA.out.below HB.out)
        have z0 := (blk_cell HT2.out.blk 0).trans rfl
        have z1 := (blk_cell HT2.out.blk 1).trans rfl
        have z2 := (blk_cell HT2.out.blk 2).trans rfl
        have z3 := (blk_cell HT2.out.blk 3).trans rfl
        have zf := blk_frozen HT2.out.blk 3
        by_cases hlt : k < m.hap.length
        · have i0 : (0 : Int) ≤ (k : Int) := by omega
          have i1 : (k : Int) < (m.hap.length : Int) := by omega
          obtain ⟨ab, e0, f0, f1, f2, f3⟩ := at_Evt HT2.out.hap hlt
          cases e0
          have hsn : cutL lo (m.hap.take (k + 1)) = cutL lo (m.hap.take k) ++ (if lo < m.hap[k].rev then [m.hap[k]] else []) := by rw [← List.take_append_getElem hlt]; exact cutL_snoc
          have hbd := Nat.le_trans (cutL_le lo (m.hap.take k)) (List.length_take_le k m.hap)
          obtain ⟨x, hx⟩ : ∃ x, m.hap[k] = x := ⟨_, rfl⟩
          rw [hx] at f0 f1 f2 f3 hsn
          have HSN := Lib.hid hsn
          have HX := Lib.hid hx
          clear hx hsn
          by_cases hr : lo < x.rev
          · go_wp2_with fail
            refine wp_region_noPanic ?_
            refine wp_region_held_drew (S := fun W => W.cell? ⟨b, 3, none⟩ = some (.slice (some ab) m.hap.length cb) ∧ W.cell? (ab.add (k * 4)) = some (.int .i64 x.rev) ∧ W.cell? ⟨b, 2, none⟩ = some (.int .i64 lo)) (by kernel_rfl) (⟨z3, f0, z2⟩) (fun hHeld => ?_)
            refine wTake 0 ?_
            refine wTake 1 ?_
            refine wTake 2 ?_
            refine wTake 3 ?_
            refine wTake 4 ?_
            refine wTake 5 ?_
            refine wTake 6 ?_
            refine wTake 7 ?_
            refine wTake 8 ?_
            refine wTake 9 ?_
            refine wTake 10 ?_
            refine wTake 11 ?_
            refine wTake 12 ?_
            try simp only [Act.put, List.setIfInBounds_toArray, List.set_cons_zero, List.set_cons_succ]
            refine wpAnyH_done (by kernel_rfl) ?_ _
            refine NoPanic.normal ?_
            clear hHeld z0 z1 z2 z3 zf f0 f1 f2 f3
            have HB3 := Lib.hid (below_drew HB.out)
            have HR3 := Lib.hid (Kd.R_drew HRk.out)
            generalize wr.drew = wd at *
            have HT4 := Lib.hid (HA.out.below HB3.out)
            have z0 := (blk_cell HT4.out.blk 0).trans rfl
            have z1 := (blk_cell HT4.out.blk 1).trans rfl
            have z2 := (blk_cell HT4.out.blk 2).trans rfl
            have z3 := (blk_cell HT4.out.blk 3).trans rfl
            obtain ⟨ab', e0, f0, f1, f2, f3⟩ := at_Evt HT4.out.hap hlt
            cases e0
            rw [HX.out] at f0 f1 f2 f3
            go_wp2_with (at_builtin; refine Kd.R_append kEvt (w0 := wd) wa.heap.size rfl (.tmp 48) (.tmp 56) 54 60 (.agg #[.int .i64 0, .bool false, .string ⟨#[]⟩, .string ⟨#[]⟩]) 48 rfl Try.underlying54 infoEvt rfl (by decide) (by omega) _ (cutL lo (m.hap.take k)) x [.int .i64 x.rev, .bool x.del, .string x.key, .string x.val] (fun _ => True) (fun _ => False) rfl rfl (kEvt_mkM _ _ _ _) (fun _ hk => hk.elim) (fun _ _ => trivial) HR3.out (Below.refl _ _) (show wa.heap.size ≤ wd.heap.size from by exact HB3.out.size) (by omega) ?_; intro v1 w4 ho hb4 hg _)
            have R4 := Lib.hid ho
            have B4 := Lib.hid (HB3.out.trans hb4)
            clear ho hb4 hg
            go_roundw
            case rel => exact ⟨k + 1, by omega, by go_num, B4, by rw [HSN.out]; simpa [hr] using R4⟩
            case measure => simp [intOf]; omega
          · go_wp2_with fail
            refine wp_region_noPanic ?_
            refine wp_region_held_drew (S := fun W => W.cell? ⟨b, 3, none⟩ = some (.slice (some ab) m.hap.length cb) ∧ W.cell? (ab.add (k * 4)) = some (.int .i64 x.rev) ∧ W.cell? ⟨b, 2, none⟩ = some (.int .i64 lo)) (by kernel_rfl) (⟨z3, f0, z2⟩) (fun hHeld => ?_)
            refine wTake 0 ?_
            refine wTake 1 ?_
            refine wTake 2 ?_
            refine wTake 3 ?_
            refine wTake 4 ?_
            refine wTake 5 ?_
            refine wTake 6 ?_
            refine wTake 7 ?_
            refine wTake 8 ?_
            refine wTake 9 ?_
            refine wTake 10 ?_
            refine wTake 11 ?_
            refine wTake 12 ?_
            try simp only [Act.put, List.setIfInBounds_toArray, List.set_cons_zero, List.set_cons_succ]
            refine wpAnyH_done (by kernel_rfl) ?_ _
            refine NoPanic.normal ?_
            clear hHeld z0 z1 z2 z3 zf f0 f1 f2 f3
            have HB3 := Lib.hid (below_drew HB.out)
            have HR3 := Lib.hid (Kd.R_drew HRk.out)
            generalize wr.drew = wd at *
            go_wp2
            go_roundw
            case rel => exact ⟨k + 1, by omega, by go_num, HB3, by rw [HSN.out, if_neg (show ¬ lo < x.rev by omega), List.append_nil]; exact HR3⟩
            case measure => simp [intOf]; omega
        · obtain rfl : k = m.hap.length := by omega
          rw [List.take_length] at HRk
          obtain ⟨B2, c2, rfl, hl2, hC2⟩ := Kd.R_reads HRk.out
          have HC2 := Lib.hid hC2
          clear hC2
          go_wp2
          go_ret
          have hK := Rt.set HT2.out 3 (.slice B2 (cutL lo m.hap).length c2)
          have hRt : Rt _ b ⟨m.row, m.rev, lo, cutL lo m.hap⟩ A ca B2 c2 := ⟨blk_put (cs' := rtC ⟨m.row, m.rev, lo, cutL lo m.hap⟩ A ca B2 c2) HT2.out.blk 3 (.slice B2 (cutL lo m.hap).length c2) rfl, rt_ent HT2.out hK HT2.out.row, rt_evt HT2.out hK HC2.out, ⟨HT2.out.cap.1, hl2⟩⟩
          first | exact ⟨B2, c2, rfl, hRt, (HK.out.then_below HB.out).trans hK⟩ | exact ⟨⟨B2, c2, hRt⟩, (HK.out.then_below HB.out).trans hK⟩ | exact ⟨rfl, ⟨B2, c2, hRt⟩, (HK.out.then_below HB.out).trans hK⟩
end Go.Proofs.Ytobanhbjkomieaa.TA
