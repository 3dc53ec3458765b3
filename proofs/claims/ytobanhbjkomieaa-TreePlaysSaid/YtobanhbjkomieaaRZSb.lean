import Derived.Test.YtobanhbjkomieaaTNSb
import Derived.Test.YtobanhbjkomieaaTHSb
import Derived.Test.YtobanhbjkomieaaTVSb
import Derived.Test.YtobanhbjkomieaaRTSb
import Derived.Deep.DrawnRows
section
namespace Go.Proofs.Ytobanhbjkomieaa.TA
open Go Go.RowKit Go.Proofs.Ytobanhbjkomieaa.KP Go.Proofs.YtobanhbjkomieaaW.PrintWords Go.Proofs.YtobanhbjkomieaaW.PrintLast Go.Proofs.YtobanhbjkomieaaW.PrintMore
open Go.Proofs.Ytobanhbjkomieaa.RP (wTake wSkip wOne wpAnyH_cast below_next0)
set_option linter.unusedSimpArgs false
set_option linter.unusedVariables false
theorem sinceL_snoc {p : ByteArray} {n : Int} {l : List Evt} {x : Evt} : sinceL p n (l ++ [x]) = sinceL p n l ++ (if (decide (n ≤ x.rev) && p.data.toList.isPrefixOf x.key.data.toList) = true then [x] else []) := by
  unfold sinceL
  rw [List.filter_append]
  congr 1
  rw [List.filter_cons]
  rfl
theorem sinceL_le (p : ByteArray) (n : Int) (l : List Evt) : (sinceL p n l).length ≤ l.length := List.length_filter_le _ _
set_option maxHeartbeats 4000000 in
set_option maxRecDepth 100000 in
theorem since_any (tb : Nat) (t : AT) (m : Md) (ad : Option Addr) (c : Nat) (w : World) (hT : At w tb t m ad c) (p : ByteArray) (hp : p.size ≤ 9223372036854775807) (n : Int) (hh : m.hap.length ≤ 1000000000) :
    Calls Try.prog 44 #[.pointer (some ⟨tb, 0, none⟩), .string p, .int .i64 n] w fun e w' => ∃ V, e = .returned (.tuple #[V, .int .i64 (sinceM (isPrefix p.data.toList) p n m).2]) ∧ kEvt.R 60 w' w.heap.size (fun _ => True) V (sinceM (isPrefix p.data.toList) p n m).1 ∧ Below w.heap.size w w' := by
  have hw : wrap64 (m.rev + 1) = m.rev + 1 := by have := hT.ok.lo; unfold wrap64; omega
  cases hpre : isPrefix p.data.toList
  · have hS : sinceM false p n m = ([], 4) := rfl
    rw [hS]
    have HT := Lib.hid hT
    clear hT
    go_enter Try.func44, Try.ntmps44
    go_wp2_with fail
    refine (keysPrefix_big p hp _).mono ?_
    rintro e w1 ⟨rfl, hd⟩
    have B1 := Lib.hid hd.below
    clear hd
    have A1 := Lib.hid (HT.out.below B1.out)
    rw [hpre]
    have d0 := blk_cell A1.out.blk 0
    have d1 := blk_cell A1.out.blk 1
    have d2 := blk_cell A1.out.blk 2
    have d3 := blk_cell A1.out.blk 3
    have d4 := blk_cell A1.out.blk 4
    simp only [List.getElem?_toArray, List.getElem?_cons_zero, List.getElem?_cons_succ] at d0 d1 d2 d3 d4
    have dl := blk_lt A1.out.blk
    go_wp2
    go_ret2
    exact ⟨_, rfl, Kd.R_nil _ _ _ _ _, B1.out⟩
  · by_cases h1 : n < 1
    · have hS : sinceM true p n m = ([], 1) := by unfold sinceM; simp [h1]
      rw [hS]
      have HT := Lib.hid hT
      clear hT
      go_enter Try.func44, Try.ntmps44
      go_wp2_with fail
      refine (keysPrefix_big p hp _).mono ?_
      rintro e w1 ⟨rfl, hd⟩
      have B1 := Lib.hid hd.below
      clear hd
      have A1 := Lib.hid (HT.out.below B1.out)
      rw [hpre]
      have d0 := blk_cell A1.out.blk 0
      have d1 := blk_cell A1.out.blk 1
      have d2 := blk_cell A1.out.blk 2
      have d3 := blk_cell A1.out.blk 3
      have d4 := blk_cell A1.out.blk 4
      simp only [List.getElem?_toArray, List.getElem?_cons_zero, List.getElem?_cons_succ] at d0 d1 d2 d3 d4
      have dl := blk_lt A1.out.blk
      go_wp2
      go_ret2
      exact ⟨_, rfl, Kd.R_nil _ _ _ _ _, B1.out⟩
    · by_cases h2 : m.rev + 1 < n
      · have hS : sinceM true p n m = ([], 1) := by unfold sinceM; simp [h2]
        rw [hS]
        have HT := Lib.hid hT
        clear hT
        go_enter Try.func44, Try.ntmps44
        go_wp2_with fail
        refine (keysPrefix_big p hp _).mono ?_
        rintro e w1 ⟨rfl, hd⟩
        have B1 := Lib.hid hd.below
        clear hd
        have A1 := Lib.hid (HT.out.below B1.out)
        rw [hpre]
        have d0 := blk_cell A1.out.blk 0
        have d1 := blk_cell A1.out.blk 1
        have d2 := blk_cell A1.out.blk 2
        have d3 := blk_cell A1.out.blk 3
        have d4 := blk_cell A1.out.blk 4
        simp only [List.getElem?_toArray, List.getElem?_cons_zero, List.getElem?_cons_succ] at d0 d1 d2 d3 d4
        have dl := blk_lt A1.out.blk
        go_wp2
        go_ret2
        exact ⟨_, rfl, Kd.R_nil _ _ _ _ _, B1.out⟩
      · by_cases h3 : n ≤ m.low
        · have hS : sinceM true p n m = ([], 52) := by unfold sinceM; simp [h1, h2, h3]
          rw [hS]
          have HT := Lib.hid hT
          clear hT
          go_enter Try.func44, Try.ntmps44
          go_wp2_with fail
          refine (keysPrefix_big p hp _).mono ?_
          rintro e w1 ⟨rfl, hd⟩
          have B1 := Lib.hid hd.below
          clear hd
          have A1 := Lib.hid (HT.out.below B1.out)
          rw [hpre]
          have d0 := blk_cell A1.out.blk 0
          have d1 := blk_cell A1.out.blk 1
          have d2 := blk_cell A1.out.blk 2
          have d3 := blk_cell A1.out.blk 3
          have d4 := blk_cell A1.out.blk 4
          simp only [List.getElem?_toArray, List.getElem?_cons_zero, List.getElem?_cons_succ] at d0 d1 d2 d3 d4
          have dl := blk_lt A1.out.blk
          go_wp2
          go_ret2
          exact ⟨_, rfl, Kd.R_nil _ _ _ _ _, B1.out⟩
        · have hS : sinceM true p n m = (sinceL p n m.hap, 0) := by unfold sinceM; simp [h1, h2, h3]
          rw [hS]
          clear hS
          have HT := Lib.hid hT
          clear hT
          go_enter Try.func44, Try.ntmps44
          go_wp2_with fail
          refine (keysPrefix_big p hp _).mono ?_
          rintro e w1 ⟨rfl, hd⟩
          have B1 := Lib.hid hd.below
          clear hd
          have A1 := Lib.hid (HT.out.below B1.out)
          rw [hpre]
          have d0 := blk_cell A1.out.blk 0
          have d1 := blk_cell A1.out.blk 1
          have d2 := blk_cell A1.out.blk 2
          have d3 := blk_cell A1.out.blk 3
          have d4 := blk_cell A1.out.blk 4
          simp only [List.getElem?_toArray, List.getElem?_cons_zero, List.getElem?_cons_succ] at d0 d1 d2 d3 d4
          have dl := blk_lt A1.out.blk
          go_wp2_with fail
          clear d0 d1 d2 d3 d4 dl
          go_loopw [8, 42] (fun out i wr => ∃ k : Nat, k ≤ m.hap.length ∧ i = .int .i64 k ∧ Hid (Below w.heap.size w wr) ∧ Hid (kEvt.R 60 wr w.heap.size (fun _ => True) out (sinceL p n (m.hap.take k)))) (fun _ i _ => m.hap.length - (intOf i).toNat)
          case atStart => exact ⟨0, by omega, rfl, B1, Lib.hid (Kd.R_nil _ _ _ _ _)⟩
          case round =>
            obtain ⟨k, hk, rfl, HBk, HRk⟩ := hrel
            by_cases hlt : k < m.hap.length
            · obtain ⟨ab, rfl, f0, f1, f2, f3⟩ := at_Evt (Kd.C_below HT.out.hap HBk.out) hlt
              have i0 : (0 : Int) ≤ (k : Int) := by omega
              have i1 : (k : Int) < (m.hap.length : Int) := by omega
              have hsn : sinceL p n (m.hap.take (k + 1)) = sinceL p n (m.hap.take k) ++ (if (decide (n ≤ m.hap[k].rev) && p.data.toList.isPrefixOf m.hap[k].key.data.toList) = true then [m.hap[k]] else []) := by rw [← List.take_append_getElem hlt]; exact sinceL_snoc
              have HSN := Lib.hid hsn
              clear hsn
              have hbd := Nat.le_trans (sinceL_le p n (m.hap.take k)) (List.length_take_le k m.hap)
              by_cases hx : n ≤ m.hap[k].rev
              · go_wp2_with fail
                clear f0 f1 f2 f3
                have B2 := Lib.hid (show Below w.heap.size w (wr.alloc (.cells #[.int .i64 m.hap[k].rev, .bool m.hap[k].del, .string m.hap[k].key, .string m.hap[k].val] 60)) from below_alloc HBk.out (.cells #[.int .i64 m.hap[k].rev, .bool m.hap[k].del, .string m.hap[k].key, .string m.hap[k].val] 60))
                have R2 := Lib.hid (Kd.R_alloc HRk.out (.cells #[.int .i64 m.hap[k].rev, .bool m.hap[k].del, .string m.hap[k].key, .string m.hap[k].val] 60))
                have HX2 := Lib.hid (heap_alloc_new wr (.cells #[.int .i64 m.hap[k].rev, .bool m.hap[k].del, .string m.hap[k].key, .string m.hap[k].val] 60))
                obtain ⟨xb, hxb⟩ : ∃ xb, xb = wr.heap.size := ⟨_, rfl⟩
                rw [← hxb] at HX2
                try rw [← hxb]
                clear HBk HRk hxb
                generalize (wr.alloc (.cells #[.int .i64 m.hap[k].rev, .bool m.hap[k].del, .string m.hap[k].key, .string m.hap[k].val] 60)) = w2 at *
                refine (keysBegins_any m.hap[k].key p w2).mono ?_
                rintro e w3 ⟨rfl, hd⟩
                have hd := hd.below
                have B3 := Lib.hid (below_next0 B2.out hd)
                have R3 := Lib.hid (Kd.R_below R2.out hd)
                have HX3 := Lib.hid ((hd.block _ (blk_lt HX2.out)).trans HX2.out)
                clear hd B2 R2 HX2
                have hbp : beginsK m.hap[k].key.data.toList p.data.toList = p.data.toList.isPrefixOf m.hap[k].key.data.toList := rfl
                rw [hbp]
                clear hbp
                cases hb : p.data.toList.isPrefixOf m.hap[k].key.data.toList
                · go_wp2
                  go_roundw
                  case rel => exact ⟨k + 1, by omega, by go_num, B3, by rw [HSN.out]; simpa [hx, hb] using R3⟩
                  case measure => simp [intOf]; omega
                · have x0 := blk_cell HX3.out 0
                  have x1 := blk_cell HX3.out 1
                  have x2 := blk_cell HX3.out 2
                  have x3 := blk_cell HX3.out 3
                  simp only [List.getElem?_toArray, List.getElem?_cons_zero, List.getElem?_cons_succ] at x0 x1 x2 x3
                  have xl := blk_lt HX3.out
                  go_wp2_with (at_builtin; refine Kd.R_append kEvt (w0 := w3) w.heap.size rfl (.tmp 56) (.tmp 58) 54 60 (.agg #[.int .i64 0, .bool false, .string ⟨#[]⟩, .string ⟨#[]⟩]) 48 rfl Try.underlying54 infoEvt rfl (by decide) (by omega) _ (sinceL p n (m.hap.take k)) m.hap[k] [.int .i64 m.hap[k].rev, .bool m.hap[k].del, .string m.hap[k].key, .string m.hap[k].val] (fun _ => True) (fun _ => False) rfl rfl (kEvt_mkM _ _ _ _) (fun _ hk => hk.elim) (fun _ _ => trivial) R3.out (Below.refl _ _) B3.out.size (by omega) ?_; intro v1 w4 ho hb4 hg _)
                  have R4 := Lib.hid ho
                  have B4 := Lib.hid (B3.out.trans hb4)
                  clear ho hb4 hg
                  go_roundw
                  case rel => exact ⟨k + 1, by omega, by go_num, B4, by rw [HSN.out]; simpa [hx, hb] using R4⟩
                  case measure => simp [intOf]; omega
              · go_wp2
                go_roundw
                case rel => exact ⟨k + 1, by omega, by go_num, Lib.hid (below_alloc HBk.out _), by rw [HSN.out]; simpa [hx] using Lib.hid (Kd.R_alloc HRk.out _)⟩
                case measure => simp [intOf]; omega
            · obtain rfl : k = m.hap.length := by omega
              rw [List.take_length] at HRk
              go_wp2
              go_ret2
              exact ⟨_, rfl, HRk.out, HBk.out⟩
end Go.Proofs.Ytobanhbjkomieaa.TA
end
section
namespace Go.Proofs.Ytobanhbjkomieaa.TA
open Go Go.RowKit Go.Proofs.Ytobanhbjkomieaa.KP Go.Proofs.YtobanhbjkomieaaW.PrintWords Go.Proofs.YtobanhbjkomieaaW.PrintLast Go.Proofs.YtobanhbjkomieaaW.PrintMore
open Go.Proofs.Ytobanhbjkomieaa.RP (wTake wSkip wOne wpAnyH_cast below_next0)
set_option linter.unusedSimpArgs false
set_option linter.unusedVariables false
theorem max2n (k k' : IntKind) (x y : Int) : Builtin.max2 (.int k x) (.int k' y) = pure (.int k (max x y)) := by
  have h : (if x < y then y else x) = max x y := by split <;> omega
  simp only [Builtin.max2, gt_iff_lt, h]
attribute [local go_sem] max2n max_two i64_w
def cutAt (n : Int) (l : List Evt) : Nat := (l.findIdx? fun x => decide (n < x.rev)).getD l.length
theorem cutAt_le (n : Int) (l : List Evt) : cutAt n l ≤ l.length := by
  unfold cutAt
  cases h : l.findIdx? (fun x => decide (n < x.rev)) with
  | none => simp
  | some i => obtain ⟨hi, _, _⟩ := List.findIdx?_eq_some_iff_getElem.1 h; simp; omega
theorem cut_drop' {n : Int} {l : List Evt} (h : l.Pairwise fun a b => a.rev ≤ b.rev) : l.filter (fun x => decide (n < x.rev)) = l.drop (cutAt n l) := cut_drop h
theorem cutAt_idx (n : Int) (l : List Evt) : idxL (fun x => decide (n < x.rev)) l = -1 ∧ cutAt n l = l.length ∨ 0 ≤ idxL (fun x => decide (n < x.rev)) l ∧ idxL (fun x => decide (n < x.rev)) l = (cutAt n l : Int) := by
  unfold cutAt idxL
  cases h : l.findIdx? (fun x => decide (n < x.rev)) with
  | none => left; simp
  | some i => right; simp
set_option maxHeartbeats 2000000 in
set_option maxRecDepth 100000 in
theorem cutC_low (tb : Nat) (low : Int) (w : World) (z : w.cell? ⟨tb, 3, none⟩ = some (.int .i64 low)) (p : Nat) (hp : w.cell? ⟨p, 0, none⟩ = some (.pointer (some ⟨tb, 0, none⟩))) (x : Evt) : Calls Try.prog 132 #[.agg #[.int .i64 x.rev, .bool x.del, .string x.key, .string x.val], .pointer (some ⟨p, 0, none⟩)] w fun e w' => e = .returned (.bool (decide (low < x.rev))) ∧ Below w.heap.size w w' := by
  have lz : tb < w.heap.size := World.block_lt_of_cell? _ ⟨tb, 3, none⟩ z
  have lp : p < w.heap.size := World.block_lt_of_cell? _ ⟨p, 0, none⟩ hp
  go_enter Try.func132, Try.ntmps132
  go_wp2_with fail
  have B1 := Lib.hid (show Below w.heap.size w (w.alloc (.cells #[.int .i64 x.rev, .bool x.del, .string x.key, .string x.val] 60)) from below_alloc (Below.refl _ _) (.cells #[.int .i64 x.rev, .bool x.del, .string x.key, .string x.val] 60))
  have hs : (fun W => W.cell? ⟨w.heap.size, 0, none⟩ = some (.int .i64 x.rev) ∧ W.cell? ⟨p, 0, none⟩ = some (.pointer (some ⟨tb, 0, none⟩)) ∧ W.cell? ⟨tb, 3, none⟩ = some (.int .i64 low)) (w.alloc (.cells #[.int .i64 x.rev, .bool x.del, .string x.key, .string x.val] 60)).drew := ⟨(blk_cell (heap_alloc_new w (.cells #[.int .i64 x.rev, .bool x.del, .string x.key, .string x.val] 60)) 0).trans rfl, (B1.out.cell (p := ⟨p, 0, none⟩) lp).trans hp, (B1.out.cell (p := ⟨tb, 3, none⟩) lz).trans z⟩
  generalize w.alloc (.cells #[.int .i64 x.rev, .bool x.del, .string x.key, .string x.val] 60) = w1 at *
  refine wp_region_noPanic ?_
  refine wp_region_held_drew (S := fun W => W.cell? ⟨w.heap.size, 0, none⟩ = some (.int .i64 x.rev) ∧ W.cell? ⟨p, 0, none⟩ = some (.pointer (some ⟨tb, 0, none⟩)) ∧ W.cell? ⟨tb, 3, none⟩ = some (.int .i64 low)) (by kernel_rfl) (hs) (fun hHeld => ?_)
  refine wTake 0 ?_
  refine wTake 1 ?_
  refine wTake 2 ?_
  refine wTake 3 ?_
  refine wTake 4 ?_
  refine wTake 5 ?_
  refine wTake 6 ?_
  refine wTake 7 ?_
  try simp only [Act.put, List.setIfInBounds_toArray, List.set_cons_zero, List.set_cons_succ]
  refine wpAnyH_done (by kernel_rfl) ?_ _
  refine NoPanic.normal ?_
  go_wp2
  go_ret
  exact ⟨rfl, below_drew B1.out⟩
set_option maxHeartbeats 8000000 in
set_option maxRecDepth 100000 in
theorem cut_any (tb : Nat) (t : AT) (m : Md) (ad : Option Addr) (c : Nat) (w : World) (hT : At w tb t m ad c) (n : Int) (hh : m.hap.length ≤ 1000000000) :
    Calls Try.prog 56 #[.pointer (some ⟨tb, 0, none⟩), .int .i64 n] w fun e w' => ∃ ad' c', e = .returned (.int .i64 (cutM n m).2) ∧ At w' tb t (cutM n m).1 ad' c' ∧ Kb tb w w' := by
  by_cases h1 : n < 0
  · have hS : cutM n m = (m, 1) := by unfold cutM; simp [h1]
    rw [hS]
    have HT := Lib.hid hT
    clear hT
    have d0 := blk_cell HT.out.blk 0
    have d1 := blk_cell HT.out.blk 1
    have d2 := blk_cell HT.out.blk 2
    have d3 := blk_cell HT.out.blk 3
    have d4 := blk_cell HT.out.blk 4
    simp only [List.getElem?_toArray, List.getElem?_cons_zero, List.getElem?_cons_succ] at d0 d1 d2 d3 d4
    have dl := blk_lt HT.out.blk
    go_enter Try.func56, Try.ntmps56
    go_wp2
    go_ret
    first | exact ⟨ad, c, rfl, HT.out.below (below_alloc (Below.refl _ _) _), Kb.of_below (below_alloc (Below.refl _ _) _) tb⟩ | exact ⟨rfl, ⟨ad, c, HT.out.below (below_alloc (Below.refl _ _) _)⟩, Kb.of_below (below_alloc (Below.refl _ _) _) tb⟩
  · by_cases h2 : m.rev < n
    · have hS : cutM n m = (m, 1) := by unfold cutM; simp [h2]
      rw [hS]
      have HT := Lib.hid hT
      clear hT
      have d0 := blk_cell HT.out.blk 0
      have d1 := blk_cell HT.out.blk 1
      have d2 := blk_cell HT.out.blk 2
      have d3 := blk_cell HT.out.blk 3
      have d4 := blk_cell HT.out.blk 4
      simp only [List.getElem?_toArray, List.getElem?_cons_zero, List.getElem?_cons_succ] at d0 d1 d2 d3 d4
      have dl := blk_lt HT.out.blk
      go_enter Try.func56, Try.ntmps56
      go_wp2
      go_ret
      first | exact ⟨ad, c, rfl, HT.out.below (below_alloc (Below.refl _ _) _), Kb.of_below (below_alloc (Below.refl _ _) _) tb⟩ | exact ⟨rfl, ⟨ad, c, HT.out.below (below_alloc (Below.refl _ _) _)⟩, Kb.of_below (below_alloc (Below.refl _ _) _) tb⟩
    · have hS : cutM n m = (⟨m.row, m.rev, max m.low n, m.hap.filter fun x => decide (max m.low n < x.rev)⟩, 0) := by unfold cutM; simp [h1, h2]
      rw [hS, cut_drop' hT.ok.ris]
      have hok := ok_cut hT.ok n
      rw [hS, cut_drop' hT.ok.ris] at hok
      clear hS
      have hidx := cutAt_idx (max m.low n) m.hap
      have hcl := cutAt_le (max m.low n) m.hap
      obtain ⟨j, hj⟩ : ∃ j, cutAt (max m.low n) m.hap = j := ⟨_, rfl⟩
      rw [hj] at hidx hcl hok ⊢
      have HOK := Lib.hid hok
      clear hok hj
      have HT := Lib.hid hT
      clear hT
      have d0 := blk_cell HT.out.blk 0
      have d1 := blk_cell HT.out.blk 1
      have d2 := blk_cell HT.out.blk 2
      have d3 := blk_cell HT.out.blk 3
      have d4 := blk_cell HT.out.blk 4
      simp only [List.getElem?_toArray, List.getElem?_cons_zero, List.getElem?_cons_succ] at d0 d1 d2 d3 d4
      have dl := blk_lt HT.out.blk
      go_enter Try.func56, Try.ntmps56
      go_wp2_with fail
      clear d0 d1 d2 d3 d4 dl
      have B1 := Lib.hid (show Below w.heap.size w (w.alloc (.cells #[.pointer (some ⟨tb, 0, none⟩)] 49)) from below_alloc (Below.refl _ _) (.cells #[.pointer (some ⟨tb, 0, none⟩)] 49))
      have HP1 := Lib.hid (heap_alloc_new w (.cells #[.pointer (some ⟨tb, 0, none⟩)] 49))
      have HB1 := Lib.hid (blk_alloc HT.out.blk (.cells #[.pointer (some ⟨tb, 0, none⟩)] 49))
      have hlt : tb < w.heap.size := blk_lt HT.out.blk
      generalize w.alloc (.cells #[.pointer (some ⟨tb, 0, none⟩)] 49) = w1 at *
      have HSw1 := Lib.hid (show (fun W => W.cell? ⟨w.heap.size, 0, none⟩ = some (.pointer (some ⟨tb, 0, none⟩))) w1.drew from (blk_cell (show w1.drew.heap[w.heap.size]? = _ from HP1.out) 0).trans rfl)
      refine wp_region_noPanic ?_
      refine wp_region_held_drew (S := fun W => W.cell? ⟨w.heap.size, 0, none⟩ = some (.pointer (some ⟨tb, 0, none⟩))) (by kernel_rfl) (HSw1.out) (fun hHeld => ?_)
      refine wTake 0 ?_
      refine wTake 1 ?_
      refine wTake 2 ?_
      refine wTake 3 ?_
      refine wTake 5 ?_
      try simp only [Act.put, List.setIfInBounds_toArray, List.set_cons_zero, List.set_cons_succ]
      refine wpAnyH_ready (rs := [4]) (by kernel_rfl) (by simp) (AllReadyH.cons rfl (fun K hK => ?_) AllReadyH.nil)
      have zz := (blk_cell (show w1.drew.heap[tb]? = _ from HB1.out) 3).trans rfl
      go_simp
      clear zz
      refine hK.out _ _ hHeld (fun hHeld => ?_)
      clear hK K
      try simp only [Act.put, List.setIfInBounds_toArray, List.set_cons_zero, List.set_cons_succ]
      refine wTake 6 ?_
      refine wTake 7 ?_
      refine wTake 8 ?_
      try simp only [Act.put, List.setIfInBounds_toArray, List.set_cons_zero, List.set_cons_succ]
      refine wpAnyH_ready (rs := [9]) (by kernel_rfl) (by simp) (AllReadyH.cons rfl (fun K hK => ?_) AllReadyH.nil)
      have zb := HB1.out
      have zf := blk_frozen zb 3
      have zz0 := (blk_cell zb 0).trans rfl
      have zz1 := (blk_cell zb 1).trans rfl
      have zz2 := (blk_cell zb 2).trans rfl
      have zz3 := (blk_cell zb 3).trans rfl
      have zz4 := (blk_cell zb 4).trans rfl
      go_simp
      clear zf zz0 zz1 zz2 zz3 zz4
      have hs' : (fun W => W.cell? ⟨w.heap.size, 0, none⟩ = some (.pointer (some ⟨tb, 0, none⟩))) (w1.setCell ⟨tb, 3, none⟩ (.int .i64 (max m.low n))).drew := (blk_cell (blk_far (p := ⟨tb, 3, none⟩) HP1.out (show w.heap.size ≠ tb by omega) (.int .i64 (max m.low n))) 0).trans rfl
      have HB2 := Lib.hid (show (w1.setCell ⟨tb, 3, none⟩ (.int .i64 (max m.low n))).drew.heap[tb]? = some (.cells #[.pointer t.adr, .int .i64 (m.row.length : Int), .int .i64 m.rev, .int .i64 (max m.low n), .slice ad m.hap.length c] 166 (0, 0)) from blk_put (cs := #[.pointer t.adr, .int .i64 (m.row.length : Int), .int .i64 m.rev, .int .i64 m.low, .slice ad m.hap.length c]) zb 3 (.int .i64 (max m.low n)) rfl)
      have HP2 := Lib.hid (show (w1.setCell ⟨tb, 3, none⟩ (.int .i64 (max m.low n))).drew.heap[w.heap.size]? = _ from blk_far (p := ⟨tb, 3, none⟩) HP1.out (show w.heap.size ≠ tb by omega) (.int .i64 (max m.low n)))
      have HK2 := Lib.hid (show Kb tb w (w1.setCell ⟨tb, 3, none⟩ (.int .i64 (max m.low n))).drew from ((Kb.of_below B1.out tb).set 3 (.int .i64 (max m.low n))).drew)
      clear zb
      generalize (w1.setCell ⟨tb, 3, none⟩ (.int .i64 (max m.low n))).drew = w2 at *
      refine hK.out _ _ hs' (fun hHeld => ?_)
      clear hK K
      try simp only [Act.put, List.setIfInBounds_toArray, List.set_cons_zero, List.set_cons_succ]
      refine wpAnyH_done (by kernel_rfl) ?_ _
      refine NoPanic.normal ?_
      clear hHeld HSw1
      have hap2 := Lib.hid (C_keep HT.out.hap (fun a ha hn => HK2.out.block _ (hap_lt HT.out.hap a ha hn) (hap_far HT.out.hap HT.out.blk a ha hn)))
      have d0 := blk_cell HB2.out 0
      have d1 := blk_cell HB2.out 1
      have d2 := blk_cell HB2.out 2
      have d3 := blk_cell HB2.out 3
      have d4 := blk_cell HB2.out 4
      simp only [List.getElem?_toArray, List.getElem?_cons_zero, List.getElem?_cons_succ] at d0 d1 d2 d3 d4
      have dl := blk_lt HB2.out
      have e0 := blk_cell HP2.out 0
      simp only [List.getElem?_toArray, List.getElem?_cons_zero, List.getElem?_cons_succ] at e0
      have el := blk_lt HP2.out
      go_wp2_with fail
      clear d0 d1 d2 d3 d4 dl
      clear e0 el
      refine (idxEvtC_any (fun x : Evt => decide (max m.low n < x.rev)) 132 ⟨w.heap.size, 0, none⟩ (Go.Proofs.enters_of Try.func132 (by kernel_rfl) rfl) ad c m.hap w2 HT.out.cap hap2.out (by omega) (fun x _ V hV => cutC_low tb (max m.low n) V ((blk_cell ((hV.block _ (blk_lt HB2.out)).trans HB2.out) 3).trans rfl) w.heap.size ((blk_cell ((hV.block _ (blk_lt HP2.out)).trans HP2.out) 0).trans rfl) x)).mono ?_
      rintro e w3 ⟨rfl, hb⟩
      have HB3 := Lib.hid ((hb.block _ (blk_lt HB2.out)).trans HB2.out)
      have HP3 := Lib.hid ((hb.block _ (blk_lt HP2.out)).trans HP2.out)
      have HK3 := Lib.hid (HK2.out.then_below hb)
      clear hb HB2 HP2 HK2 hap2 hlt
      have hlt : tb < w.heap.size := blk_lt HT.out.blk
      generalize idxL (fun x : Evt => decide (max m.low n < x.rev)) m.hap = i at *
      have hcap : m.hap.length ≤ c := HT.out.cap
      have hcI : (m.hap.length : Int) ≤ (c : Int) := by omega
      have hjI : (j : Int) ≤ (m.hap.length : Int) := by omega
      have hj0 : (0 : Int) ≤ (j : Int) := by omega
      rcases hidx with ⟨rfl, rfl⟩ | ⟨hi0, rfl⟩
      · have d0 := blk_cell HB3.out 0
        have d1 := blk_cell HB3.out 1
        have d2 := blk_cell HB3.out 2
        have d3 := blk_cell HB3.out 3
        have d4 := blk_cell HB3.out 4
        simp only [List.getElem?_toArray, List.getElem?_cons_zero, List.getElem?_cons_succ] at d0 d1 d2 d3 d4
        have dl := blk_lt HB3.out
        have e0 := blk_cell HP3.out 0
        simp only [List.getElem?_toArray, List.getElem?_cons_zero, List.getElem?_cons_succ] at e0
        have el := blk_lt HP3.out
        go_wp2_with fail
        clear d0 d1 d2 d3 d4 dl
        clear e0 el
        have HSw3 := Lib.hid (show (fun W => W.cell? ⟨w.heap.size, 0, none⟩ = some (.pointer (some ⟨tb, 0, none⟩))) w3.drew from (blk_cell (show w3.drew.heap[w.heap.size]? = _ from HP3.out) 0).trans rfl)
        refine wp_region_noPanic ?_
        refine wp_region_held_drew (S := fun W => W.cell? ⟨w.heap.size, 0, none⟩ = some (.pointer (some ⟨tb, 0, none⟩))) (by kernel_rfl) (HSw3.out) (fun hHeld => ?_)
        refine wTake 0 ?_
        refine wTake 1 ?_
        refine wTake 2 ?_
        refine wTake 3 ?_
        refine wTake 5 ?_
        try simp only [Act.put, List.setIfInBounds_toArray, List.set_cons_zero, List.set_cons_succ]
        refine wpAnyH_ready (rs := [4]) (by kernel_rfl) (by simp) (AllReadyH.cons rfl (fun K hK => ?_) AllReadyH.nil)
        have zz := (blk_cell (show w3.drew.heap[tb]? = _ from HB3.out) 4).trans rfl
        go_simp
        clear zz
        refine hK.out _ _ hHeld (fun hHeld => ?_)
        clear hK K
        try simp only [Act.put, List.setIfInBounds_toArray, List.set_cons_zero, List.set_cons_succ]
        refine wTake 6 ?_
        refine wTake 7 ?_
        refine wTake 8 ?_
        try simp only [Act.put, List.setIfInBounds_toArray, List.set_cons_zero, List.set_cons_succ]
        refine wpAnyH_ready (rs := [9]) (by kernel_rfl) (by simp) (AllReadyH.cons rfl (fun K hK => ?_) AllReadyH.nil)
        have zb := HB3.out
        have zf := blk_frozen zb 4
        have zz0 := (blk_cell zb 0).trans rfl
        have zz1 := (blk_cell zb 1).trans rfl
        have zz2 := (blk_cell zb 2).trans rfl
        have zz3 := (blk_cell zb 3).trans rfl
        have zz4 := (blk_cell zb 4).trans rfl
        go_simp
        clear zf zz0 zz1 zz2 zz3 zz4
        have hs' : (fun W => W.cell? ⟨w.heap.size, 0, none⟩ = some (.pointer (some ⟨tb, 0, none⟩))) (w3.setCell ⟨tb, 4, none⟩ (.slice (if c = m.hap.length then ad else Option.map (fun x => x.add (m.hap.length * 4)) ad) 0 (c - m.hap.length))).drew := (blk_cell (blk_far (p := ⟨tb, 4, none⟩) HP3.out (show w.heap.size ≠ tb by omega) (.slice (if c = m.hap.length then ad else Option.map (fun x => x.add (m.hap.length * 4)) ad) 0 (c - m.hap.length))) 0).trans rfl
        have HB4 := Lib.hid (show (w3.setCell ⟨tb, 4, none⟩ (.slice (if c = m.hap.length then ad else Option.map (fun x => x.add (m.hap.length * 4)) ad) 0 (c - m.hap.length))).drew.heap[tb]? = some (.cells #[.pointer t.adr, .int .i64 (m.row.length : Int), .int .i64 m.rev, .int .i64 (max m.low n), .slice (if c = m.hap.length then ad else Option.map (fun x => x.add (m.hap.length * 4)) ad) 0 (c - m.hap.length)] 166 (0, 0)) from blk_put (cs := #[.pointer t.adr, .int .i64 (m.row.length : Int), .int .i64 m.rev, .int .i64 (max m.low n), .slice ad m.hap.length c]) zb 4 (.slice (if c = m.hap.length then ad else Option.map (fun x => x.add (m.hap.length * 4)) ad) 0 (c - m.hap.length)) rfl)
        have HP4 := Lib.hid (show (w3.setCell ⟨tb, 4, none⟩ (.slice (if c = m.hap.length then ad else Option.map (fun x => x.add (m.hap.length * 4)) ad) 0 (c - m.hap.length))).drew.heap[w.heap.size]? = _ from blk_far (p := ⟨tb, 4, none⟩) HP3.out (show w.heap.size ≠ tb by omega) (.slice (if c = m.hap.length then ad else Option.map (fun x => x.add (m.hap.length * 4)) ad) 0 (c - m.hap.length)))
        have HK4 := Lib.hid (show Kb tb w (w3.setCell ⟨tb, 4, none⟩ (.slice (if c = m.hap.length then ad else Option.map (fun x => x.add (m.hap.length * 4)) ad) 0 (c - m.hap.length))).drew from (HK3.out.set 4 (.slice (if c = m.hap.length then ad else Option.map (fun x => x.add (m.hap.length * 4)) ad) 0 (c - m.hap.length))).drew)
        clear zb
        generalize (w3.setCell ⟨tb, 4, none⟩ (.slice (if c = m.hap.length then ad else Option.map (fun x => x.add (m.hap.length * 4)) ad) 0 (c - m.hap.length))).drew = w4 at *
        refine hK.out _ _ hs' (fun hHeld => ?_)
        clear hK K
        try simp only [Act.put, List.setIfInBounds_toArray, List.set_cons_zero, List.set_cons_succ]
        refine wpAnyH_done (by kernel_rfl) ?_ _
        refine NoPanic.normal ?_
        clear hHeld HSw3
        have hap4 := Lib.hid (C_keep HT.out.hap (fun a ha hn => HK4.out.block _ (hap_lt HT.out.hap a ha hn) (hap_far HT.out.hap HT.out.blk a ha hn)))
        have hd4 := Lib.hid (show Kd.C kEvt w4 (if c = m.hap.length then ad else Option.map (fun x => x.add (m.hap.length * 4)) ad) (m.hap.drop m.hap.length).length (m.hap.drop m.hap.length) from Kd.C_drop hap4.out (by omega) HT.out.cap)
        generalize (if c = m.hap.length then ad else Option.map (fun x => x.add (m.hap.length * 4)) ad) = a9 at *
        go_wp2
        go_ret
        have hat : At w4 tb t ⟨m.row, m.rev, max m.low n, m.hap.drop m.hap.length⟩ a9 (c - m.hap.length) := by
          refine ⟨?_, HT.out.ins.kb HT.out.blk (by decide) HK4.out, HT.out.tall, HT.out.row, hd4.out, by rw [List.length_drop]; omega, HOK.out⟩
          show w4.heap[tb]? = some (.cells #[.pointer t.adr, .int .i64 (m.row.length : Int), .int .i64 m.rev, .int .i64 (max m.low n), .slice a9 (m.hap.drop m.hap.length).length (c - m.hap.length)] 166 (0, 0))
          rw [List.length_drop]
          rw [Nat.sub_self]
          exact HB4.out
        first | exact ⟨a9, c - m.hap.length, rfl, by simpa using hat, HK4.out⟩ | exact ⟨rfl, ⟨a9, c - m.hap.length, by simpa using hat⟩, HK4.out⟩
      · have d0 := blk_cell HB3.out 0
        have d1 := blk_cell HB3.out 1
        have d2 := blk_cell HB3.out 2
        have d3 := blk_cell HB3.out 3
        have d4 := blk_cell HB3.out 4
        simp only [List.getElem?_toArray, List.getElem?_cons_zero, List.getElem?_cons_succ] at d0 d1 d2 d3 d4
        have dl := blk_lt HB3.out
        have e0 := blk_cell HP3.out 0
        simp only [List.getElem?_toArray, List.getElem?_cons_zero, List.getElem?_cons_succ] at e0
        have el := blk_lt HP3.out
        go_wp2_with fail
        clear d0 d1 d2 d3 d4 dl
        clear e0 el
        have HSw3 := Lib.hid (show (fun W => W.cell? ⟨w.heap.size, 0, none⟩ = some (.pointer (some ⟨tb, 0, none⟩))) w3.drew from (blk_cell (show w3.drew.heap[w.heap.size]? = _ from HP3.out) 0).trans rfl)
        refine wp_region_noPanic ?_
        refine wp_region_held_drew (S := fun W => W.cell? ⟨w.heap.size, 0, none⟩ = some (.pointer (some ⟨tb, 0, none⟩))) (by kernel_rfl) (HSw3.out) (fun hHeld => ?_)
        refine wTake 0 ?_
        refine wTake 1 ?_
        refine wTake 2 ?_
        refine wTake 3 ?_
        refine wTake 5 ?_
        try simp only [Act.put, List.setIfInBounds_toArray, List.set_cons_zero, List.set_cons_succ]
        refine wpAnyH_ready (rs := [4]) (by kernel_rfl) (by simp) (AllReadyH.cons rfl (fun K hK => ?_) AllReadyH.nil)
        have zz := (blk_cell (show w3.drew.heap[tb]? = _ from HB3.out) 4).trans rfl
        go_simp
        clear zz
        refine hK.out _ _ hHeld (fun hHeld => ?_)
        clear hK K
        try simp only [Act.put, List.setIfInBounds_toArray, List.set_cons_zero, List.set_cons_succ]
        refine wTake 6 ?_
        refine wTake 7 ?_
        refine wTake 8 ?_
        try simp only [Act.put, List.setIfInBounds_toArray, List.set_cons_zero, List.set_cons_succ]
        refine wpAnyH_ready (rs := [9]) (by kernel_rfl) (by simp) (AllReadyH.cons rfl (fun K hK => ?_) AllReadyH.nil)
        have zb := HB3.out
        have zf := blk_frozen zb 4
        have zz0 := (blk_cell zb 0).trans rfl
        have zz1 := (blk_cell zb 1).trans rfl
        have zz2 := (blk_cell zb 2).trans rfl
        have zz3 := (blk_cell zb 3).trans rfl
        have zz4 := (blk_cell zb 4).trans rfl
        go_simp
        clear zf zz0 zz1 zz2 zz3 zz4
        have hs' : (fun W => W.cell? ⟨w.heap.size, 0, none⟩ = some (.pointer (some ⟨tb, 0, none⟩))) (w3.setCell ⟨tb, 4, none⟩ (.slice (if c = j then ad else Option.map (fun x => x.add (j * 4)) ad) (m.hap.length - j) (c - j))).drew := (blk_cell (blk_far (p := ⟨tb, 4, none⟩) HP3.out (show w.heap.size ≠ tb by omega) (.slice (if c = j then ad else Option.map (fun x => x.add (j * 4)) ad) (m.hap.length - j) (c - j))) 0).trans rfl
        have HB4 := Lib.hid (show (w3.setCell ⟨tb, 4, none⟩ (.slice (if c = j then ad else Option.map (fun x => x.add (j * 4)) ad) (m.hap.length - j) (c - j))).drew.heap[tb]? = some (.cells #[.pointer t.adr, .int .i64 (m.row.length : Int), .int .i64 m.rev, .int .i64 (max m.low n), .slice (if c = j then ad else Option.map (fun x => x.add (j * 4)) ad) (m.hap.length - j) (c - j)] 166 (0, 0)) from blk_put (cs := #[.pointer t.adr, .int .i64 (m.row.length : Int), .int .i64 m.rev, .int .i64 (max m.low n), .slice ad m.hap.length c]) zb 4 (.slice (if c = j then ad else Option.map (fun x => x.add (j * 4)) ad) (m.hap.length - j) (c - j)) rfl)
        have HP4 := Lib.hid (show (w3.setCell ⟨tb, 4, none⟩ (.slice (if c = j then ad else Option.map (fun x => x.add (j * 4)) ad) (m.hap.length - j) (c - j))).drew.heap[w.heap.size]? = _ from blk_far (p := ⟨tb, 4, none⟩) HP3.out (show w.heap.size ≠ tb by omega) (.slice (if c = j then ad else Option.map (fun x => x.add (j * 4)) ad) (m.hap.length - j) (c - j)))
        have HK4 := Lib.hid (show Kb tb w (w3.setCell ⟨tb, 4, none⟩ (.slice (if c = j then ad else Option.map (fun x => x.add (j * 4)) ad) (m.hap.length - j) (c - j))).drew from (HK3.out.set 4 (.slice (if c = j then ad else Option.map (fun x => x.add (j * 4)) ad) (m.hap.length - j) (c - j))).drew)
        clear zb
        generalize (w3.setCell ⟨tb, 4, none⟩ (.slice (if c = j then ad else Option.map (fun x => x.add (j * 4)) ad) (m.hap.length - j) (c - j))).drew = w4 at *
        refine hK.out _ _ hs' (fun hHeld => ?_)
        clear hK K
        try simp only [Act.put, List.setIfInBounds_toArray, List.set_cons_zero, List.set_cons_succ]
        refine wpAnyH_done (by kernel_rfl) ?_ _
        refine NoPanic.normal ?_
        clear hHeld HSw3
        have hap4 := Lib.hid (C_keep HT.out.hap (fun a ha hn => HK4.out.block _ (hap_lt HT.out.hap a ha hn) (hap_far HT.out.hap HT.out.blk a ha hn)))
        have hd4 := Lib.hid (show Kd.C kEvt w4 (if c = j then ad else Option.map (fun x => x.add (j * 4)) ad) (m.hap.drop j).length (m.hap.drop j) from Kd.C_drop hap4.out (by omega) HT.out.cap)
        generalize (if c = j then ad else Option.map (fun x => x.add (j * 4)) ad) = a9 at *
        go_wp2
        go_ret
        have hat : At w4 tb t ⟨m.row, m.rev, max m.low n, m.hap.drop j⟩ a9 (c - j) := by
          refine ⟨?_, HT.out.ins.kb HT.out.blk (by decide) HK4.out, HT.out.tall, HT.out.row, hd4.out, by rw [List.length_drop]; omega, HOK.out⟩
          show w4.heap[tb]? = some (.cells #[.pointer t.adr, .int .i64 (m.row.length : Int), .int .i64 m.rev, .int .i64 (max m.low n), .slice a9 (m.hap.drop j).length (c - j)] 166 (0, 0))
          rw [List.length_drop]
          exact HB4.out
        first | exact ⟨a9, c - j, rfl, by simpa using hat, HK4.out⟩ | exact ⟨rfl, ⟨a9, c - j, by simpa using hat⟩, HK4.out⟩
end Go.Proofs.Ytobanhbjkomieaa.TA
end
section
namespace Go.Proofs.Ytobanhbjkomieaa.RP
open Go.RowKit Go.Proofs.Ytobanhbjkomieaa.PAll Go.Proofs.Ytobanhbjkomieaa.KP Go.Proofs.Ytobanhbjkomieaa.BP Go.Proofs.YtobanhbjkomieaaW.PrintWords Go.Proofs.YtobanhbjkomieaaW.PrintLast Go.Proofs.YtobanhbjkomieaaW.PrintMore
open Go.Proofs.Ytobanhbjkomieaa.PRd (IsS225)
section
variable (s : ByteArray) (hs : s.size ≤ 140737488351232) (g p : Nat) (hp : p ≤ s.size) (e : Int) (w0 w : World)
include hs hp
end
end Go.Proofs.Ytobanhbjkomieaa.RP
namespace Go.Proofs.Ytobanhbjkomieaa.RP
open Go.RowKit Go.Proofs.Ytobanhbjkomieaa.PAll Go.Proofs.Ytobanhbjkomieaa.KP Go.Proofs.Ytobanhbjkomieaa.BP Go.Proofs.YtobanhbjkomieaaW.PrintWords Go.Proofs.YtobanhbjkomieaaW.PrintLast Go.Proofs.YtobanhbjkomieaaW.PrintMore
open Go.Proofs.Ytobanhbjkomieaa.PRd (IsS225)
set_option linter.unusedSimpArgs false
set_option linter.unusedVariables false
theorem new_any (s : ByteArray) (w : World) : Calls Try.prog 179 #[.string s] w fun e w' => e = .returned (.pointer (some ⟨w.heap.size, 0, none⟩)) ∧ w' = w.alloc (.cells #[.string s, .int .i64 0, .int .i64 0] 225) := by
  go_enter Try.func179, Try.ntmps179
  go_wp2
  go_ret
  exact ⟨rfl, rfl⟩
end Go.Proofs.Ytobanhbjkomieaa.RP
namespace Go.Proofs.Ytobanhbjkomieaa.RP
open Go.RowKit Go.Proofs.Ytobanhbjkomieaa.PAll Go.Proofs.Ytobanhbjkomieaa.KP Go.Proofs.Ytobanhbjkomieaa.BP Go.Proofs.YtobanhbjkomieaaW.PrintWords Go.Proofs.YtobanhbjkomieaaW.PrintLast Go.Proofs.YtobanhbjkomieaaW.PrintMore
open Go.Proofs.Ytobanhbjkomieaa.PRd (IsS225)
set_option linter.unusedSimpArgs false
set_option linter.unusedVariables false
end Go.Proofs.Ytobanhbjkomieaa.RP
namespace Go.Proofs.Ytobanhbjkomieaa.RP
open Go.RowKit Go.Proofs.Ytobanhbjkomieaa.PAll Go.Proofs.Ytobanhbjkomieaa.KP Go.Proofs.Ytobanhbjkomieaa.BP Go.Proofs.YtobanhbjkomieaaW.PrintWords Go.Proofs.YtobanhbjkomieaaW.PrintLast Go.Proofs.YtobanhbjkomieaaW.PrintMore
set_option linter.unusedSimpArgs false
set_option linter.unusedVariables false
end Go.Proofs.Ytobanhbjkomieaa.RP
namespace Go.Proofs.Ytobanhbjkomieaa.RP
open Go.RowKit Go.Proofs.Ytobanhbjkomieaa.PAll Go.Proofs.Ytobanhbjkomieaa.KP Go.Proofs.Ytobanhbjkomieaa.BP Go.Proofs.YtobanhbjkomieaaW.PrintWords Go.Proofs.YtobanhbjkomieaaW.PrintLast Go.Proofs.YtobanhbjkomieaaW.PrintMore
set_option linter.unusedSimpArgs false
set_option linter.unusedVariables false
end Go.Proofs.Ytobanhbjkomieaa.RP
namespace Go.Proofs.Ytobanhbjkomieaa.RP
open Go.RowKit Go.Proofs.Ytobanhbjkomieaa.PAll Go.Proofs.Ytobanhbjkomieaa.KP Go.Proofs.Ytobanhbjkomieaa.BP Go.Proofs.YtobanhbjkomieaaW.PrintWords Go.Proofs.YtobanhbjkomieaaW.PrintLast Go.Proofs.YtobanhbjkomieaaW.PrintMore
set_option linter.unusedSimpArgs false
set_option linter.unusedVariables false
end Go.Proofs.Ytobanhbjkomieaa.RP
namespace Go.Proofs.Ytobanhbjkomieaa.RP
open Go.RowKit Go.Proofs.Ytobanhbjkomieaa.PAll Go.Proofs.Ytobanhbjkomieaa.KP Go.Proofs.Ytobanhbjkomieaa.BP Go.Proofs.YtobanhbjkomieaaW.PrintWords Go.Proofs.YtobanhbjkomieaaW.PrintLast Go.Proofs.YtobanhbjkomieaaW.PrintMore
set_option linter.unusedSimpArgs false
set_option linter.unusedVariables false
attribute [local go_sem high] EQ.eqA23 EQ.eqA25 EQ.eqA113
attribute [local go_sem ↓] Go.wp_at_zero Go.wp_at_succ
end Go.Proofs.Ytobanhbjkomieaa.RP
end
