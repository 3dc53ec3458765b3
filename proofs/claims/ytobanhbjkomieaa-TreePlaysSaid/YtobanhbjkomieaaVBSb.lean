import Derived.Test.YtobanhbjkomieaaVASb
namespace Go.Proofs.Ytobanhbjkomieaa.TA
open Go Go.RowKit Go.Proofs.Ytobanhbjkomieaa.KP Go.Proofs.YtobanhbjkomieaaW.PrintWords Go.Proofs.YtobanhbjkomieaaW.PrintLast Go.Proofs.YtobanhbjkomieaaW.PrintMore
open Go.Proofs.Ytobanhbjkomieaa.RP (wTake wSkip wOne wpAnyH_cast below_next0)
set_option linter.unusedSimpArgs false
set_option linter.unusedVariables false
theorem gt_eq (a b : ByteArray) : (!Op.bytesLess a.toList b.toList && !a.toList == b.toList) = lt b a := by
  show (!lt a b && !a.toList == b.toList) = lt b a
  by_cases e : a = b
  · subst e
    simp [lt_irrefl]
  · have h : (a.toList == b.toList) = false := beq_ne e
    rw [h]
    cases c : lt b a
    · cases d : lt a b
      · exact absurd (lt_tri d c) e
      · rfl
    · rw [lt_asymm c]
      rfl
set_option maxHeartbeats 2000000 in
set_option maxRecDepth 100000 in
theorem getR_any (b : Nat) (m : Md) (A : Option Addr) (ca : Nat) (B : Option Addr) (cb : Nat) (w : World) (hT : Rt w b m A ca B cb) (hn : m.row.length ≤ 1000000000) (q : ByteArray) :
    Calls Try.prog 134 #[.pointer (some ⟨b, 0, none⟩), .string q] w fun e w' => e = .returned (.tuple #[entV (getD q m.row), .bool (getL q m.row).isSome]) ∧ Below w.heap.size w w' := by
  have HT := Lib.hid hT
  clear hT
  go_enter Try.func134, Try.ntmps134
  go_wp2_with fail
  obtain ⟨rb, hrb⟩ : ∃ X, X = w.heap.size := ⟨_, rfl⟩
  try rw [← hrb]
  have B1 := Lib.hid (below_alloc (Below.refl w.heap.size w) (.cells #[.string ⟨#[]⟩, .string ⟨#[]⟩, .int .i64 0, .int .i64 0] 62))
  have HR := Lib.hid (show (w.alloc (.cells #[.string ⟨#[]⟩, .string ⟨#[]⟩, .int .i64 0, .int .i64 0] 62)).heap[rb]? = some (.cells #[.string ⟨#[]⟩, .string ⟨#[]⟩, .int .i64 0, .int .i64 0] 62 (0, 0)) from hrb ▸ heap_alloc_new w (.cells #[.string ⟨#[]⟩, .string ⟨#[]⟩, .int .i64 0, .int .i64 0] 62))
  have hrw : w.heap.size ≤ rb := Nat.le_of_eq hrb.symm
  clear hrb
  generalize w.alloc (.cells #[.string ⟨#[]⟩, .string ⟨#[]⟩, .int .i64 0, .int .i64 0] 62) = w1 at *
  go_loopw [6] (fun i wr => ∃ k : Nat, k ≤ m.row.length ∧ i = .int .i64 k ∧ Hid (Below w.heap.size w wr) ∧ Hid (wr.heap[rb]? = some (.cells #[.string ⟨#[]⟩, .string ⟨#[]⟩, .int .i64 0, .int .i64 0] 62 (0, 0))) ∧ Hid (getL q (m.row.take k) = none)) (fun i _ => m.row.length - (intOf i).toNat)
  case atStart => exact ⟨0, by omega, rfl, B1, HR, Lib.hid rfl⟩
  case round =>
    obtain ⟨k, hk, rfl, HB, HR2, HN⟩ := hrel
    have HT2 := Lib.hid (HT.out.below HB.out)
    have z0 := (blk_cell HT2.out.blk 0).trans rfl
    by_cases hlt : k < m.row.length
    · have i0 : (0 : Int) ≤ (k : Int) := by omega
      have i1 : (k : Int) < (m.row.length : Int) := by omega
      obtain ⟨ab, e0, f0, f1, f2, f3⟩ := at_Ent HT2.out.row hlt
      obtain ⟨x, hx⟩ : ∃ x, m.row[k] = x := ⟨_, rfl⟩
      rw [hx] at f0 f1 f2 f3
      have HX := Lib.hid hx
      clear hx
      cases e0
      by_cases hq : x.key = q
      · have k3 := beq_same hq
        have hgl : getL q m.row = some x := by rw [getL_take hlt HN.out, HX.out, if_pos hq]
        clear hq
        have c0 := blk_cell HR2.out 0
        have cf0 := blk_frozen HR2.out 0
        have c1 := blk_cell HR2.out 1
        have cf1 := blk_frozen HR2.out 1
        have c2 := blk_cell HR2.out 2
        have cf2 := blk_frozen HR2.out 2
        have c3 := blk_cell HR2.out 3
        have cf3 := blk_frozen HR2.out 3
        simp only [List.getElem?_toArray, List.getElem?_cons_zero, List.getElem?_cons_succ] at c0 c1 c2 c3
        go_wp2
        refine bodyPost_ret (results_ct rfl _ _ rb 62 #[.string x.key, .string x.val, .int .i64 x.made, .int .i64 x.mod] (0, 0) _ rfl (blk_put (cs := #[.string x.key, .string x.val, .int .i64 x.made, .int .i64 0]) (blk_put (cs := #[.string x.key, .string x.val, .int .i64 0, .int .i64 0]) (blk_put (cs := #[.string x.key, .string ⟨#[]⟩, .int .i64 0, .int .i64 0]) (blk_put (cs := #[.string ⟨#[]⟩, .string ⟨#[]⟩, .int .i64 0, .int .i64 0]) HR2.out 0 (.string x.key) rfl) 1 (.string x.val) rfl) 2 (.int .i64 x.made) rfl) 3 (.int .i64 x.mod) rfl) Try.underlying62 rfl (by kernel_rfl)) rfl ?_
        exact ⟨by unfold getD; rw [hgl]; rfl, ((((HB.out.setCell (p := ⟨rb, 0, none⟩) hrw (.string x.key)).setCell (p := ⟨rb, 1, none⟩) hrw (.string x.val)).setCell (p := ⟨rb, 2, none⟩) hrw (.int .i64 x.made)).setCell (p := ⟨rb, 3, none⟩) hrw (.int .i64 x.mod))⟩
      · have k3 := beq_ne hq
        have HQ := Lib.hid hq
        clear hq
        go_wp2
        go_roundw
        case rel => exact ⟨k + 1, by omega, by go_num, HB, HR2, Lib.hid (getL_take_next hlt HN.out (by rw [HX.out]; exact HQ.out))⟩
        case measure => simp [intOf]; omega
    · obtain rfl : k = m.row.length := by omega
      have hgl := HN.out
      rw [List.take_length] at hgl
      have c0 := blk_cell HR2.out 0
      have cf0 := blk_frozen HR2.out 0
      have c1 := blk_cell HR2.out 1
      have cf1 := blk_frozen HR2.out 1
      have c2 := blk_cell HR2.out 2
      have cf2 := blk_frozen HR2.out 2
      have c3 := blk_cell HR2.out 3
      have cf3 := blk_frozen HR2.out 3
      simp only [List.getElem?_toArray, List.getElem?_cons_zero, List.getElem?_cons_succ] at c0 c1 c2 c3
      go_wp2
      refine bodyPost_ret (results_ct rfl _ _ rb 62 #[.string ⟨#[]⟩, .string ⟨#[]⟩, .int .i64 0, .int .i64 0] (0, 0) _ rfl (blk_put (cs := #[.string ⟨#[]⟩, .string ⟨#[]⟩, .int .i64 0, .int .i64 0]) (blk_put (cs := #[.string ⟨#[]⟩, .string ⟨#[]⟩, .int .i64 0, .int .i64 0]) (blk_put (cs := #[.string ⟨#[]⟩, .string ⟨#[]⟩, .int .i64 0, .int .i64 0]) (blk_put (cs := #[.string ⟨#[]⟩, .string ⟨#[]⟩, .int .i64 0, .int .i64 0]) HR2.out 0 (.string ⟨#[]⟩) rfl) 1 (.string ⟨#[]⟩) rfl) 2 (.int .i64 0) rfl) 3 (.int .i64 0) rfl) Try.underlying62 rfl (by kernel_rfl)) rfl ?_
      exact ⟨by unfold getD; rw [hgl]; rfl, ((((HB.out.setCell (p := ⟨rb, 0, none⟩) hrw (.string ⟨#[]⟩)).setCell (p := ⟨rb, 1, none⟩) hrw (.string ⟨#[]⟩)).setCell (p := ⟨rb, 2, none⟩) hrw (.int .i64 0)).setCell (p := ⟨rb, 3, none⟩) hrw (.int .i64 0))⟩
set_option maxHeartbeats 2000000 in
set_option maxRecDepth 100000 in
theorem holdsR_any (b : Nat) (m : Md) (A : Option Addr) (ca : Nat) (B : Option Addr) (cb : Nat) (w : World) (hT : Rt w b m A ca B cb) (hn : m.row.length ≤ 1000000000) (C : Option Addr) (cc : Nat) (l : List Cnd) (hc : l.length ≤ cc) (hC : Kd.C kCnd w C l.length l) (hl : l.length ≤ 9223372036854775807) :
    Calls Try.prog 133 #[.pointer (some ⟨b, 0, none⟩), .slice C l.length cc] w fun e w' => e = .returned (.bool (holdsL l m.row)) ∧ Below w.heap.size w w' := by
  have HT := Lib.hid hT
  have HC := Lib.hid hC
  clear hT hC
  go_enter Try.func133, Try.ntmps133
  go_wp2_with fail
  go_loopw [5] (fun i wr => ∃ k : Nat, k ≤ l.length ∧ i = .int .i64 k ∧ Hid (Below w.heap.size w wr) ∧ Hid (holdsL (l.take k) m.row = true)) (fun i _ => l.length - (intOf i).toNat)
  case atStart => exact ⟨0, by omega, rfl, Lib.hid (Below.refl _ _), Lib.hid rfl⟩
  case round =>
    obtain ⟨k, hk, rfl, HB, HN⟩ := hrel
    have HT2 := Lib.hid (HT.out.below HB.out)
    by_cases hlt : k < l.length
    · have i0 : (0 : Int) ≤ (k : Int) := by omega
      have i1 : (k : Int) < (l.length : Int) := by omega
      obtain ⟨ab, e0, f0, f1⟩ := at_Cnd (Kd.C_below HC.out HB.out) hlt
      cases e0
      have hsn : holdsL (l.take (k + 1)) m.row = (holdsL (l.take k) m.row && decide ((getD l[k].key m.row).mod = l[k].mod)) := by rw [← List.take_append_getElem hlt]; exact holdsL_snoc
      rw [HN.out, Bool.true_and] at hsn
      have HSN := Lib.hid hsn
      clear hsn
      have hall : holdsL l m.row = true → (getD l[k].key m.row).mod = l[k].mod := fun h => of_decide_eq_true (List.all_eq_true.1 h _ (List.getElem_mem hlt))
      have HALL := Lib.hid hall
      clear hall
      obtain ⟨c, hx⟩ : ∃ c, l[k] = c := ⟨_, rfl⟩
      rw [hx] at f0 f1 HSN HALL
      have HKC := Lib.hid hx
      clear hx
      have hcall := getR_any b m A ca B cb wr HT2.out hn c.key
      obtain ⟨y, hy⟩ : ∃ y, getD c.key m.row = y := ⟨_, rfl⟩
      obtain ⟨bs, hbs⟩ : ∃ bs, (getL c.key m.row).isSome = bs := ⟨_, rfl⟩
      rw [hy] at hcall HSN HALL
      rw [hbs] at hcall
      have HCL := Lib.hid hcall
      clear hcall hy hbs
      go_wp2_with fail
      clear f0 f1
      refine HCL.out.mono ?_
      rintro e w2 ⟨rfl, hb⟩
      have B2 := Lib.hid (below_next0 HB.out hb)
      clear hb
      simp only [entV]
      go_wp2_with fail
      obtain ⟨yb, hyb⟩ : ∃ X, X = w2.heap.size := ⟨_, rfl⟩
      try rw [← hyb]
      have B3 := Lib.hid (show Below w.heap.size w (w2.alloc (.cells #[.string y.key, .string y.val, .int .i64 y.made, .int .i64 y.mod] 62)) from below_alloc B2.out (.cells #[.string y.key, .string y.val, .int .i64 y.made, .int .i64 y.mod] 62))
      have HY := Lib.hid (show (w2.alloc (.cells #[.string y.key, .string y.val, .int .i64 y.made, .int .i64 y.mod] 62)).heap[yb]? = some (.cells #[.string y.key, .string y.val, .int .i64 y.made, .int .i64 y.mod] 62 (0, 0)) from hyb ▸ heap_alloc_new w2 (.cells #[.string y.key, .string y.val, .int .i64 y.made, .int .i64 y.mod] 62))
      clear hyb
      generalize w2.alloc (.cells #[.string y.key, .string y.val, .int .i64 y.made, .int .i64 y.mod] 62) = w3 at *
      obtain ⟨ab', e0, f0, f1⟩ := at_Cnd (Kd.C_below HC.out B3.out) hlt
      cases e0
      rw [show l[k] = c from HKC.out] at f1
      by_cases hm : y.mod = c.mod
      · have k3 : (y.mod != c.mod) = false := by simp [hm]
        refine wp_region_noPanic ?_
        refine wp_region_held_drew (S := fun W => W.cell? ⟨yb, 3, none⟩ = some (.int .i64 y.mod) ∧ W.cell? ⟨(ab.add (k * 2)).block, (ab.add (k * 2)).off + 1, none⟩ = some (.int .i64 c.mod)) (by kernel_rfl) (⟨(blk_cell (show w3.drew.heap[yb]? = _ from HY.out) 3).trans rfl, f1⟩) (fun hHeld => ?_)
        refine wTake 0 ?_
        refine wTake 1 ?_
        refine wTake 2 ?_
        refine wTake 3 ?_
        refine wTake 4 ?_
        refine wTake 5 ?_
        refine wTake 6 ?_
        refine wTake 7 ?_
        try simp only [Act.put, List.setIfInBounds_toArray, List.set_cons_zero, List.set_cons_succ]
        refine wpAnyH_done (by kernel_rfl) ?_ _
        refine NoPanic.normal ?_
        clear hHeld
        go_wp2
        go_roundw
        case rel => exact ⟨k + 1, by omega, by go_num, Lib.hid (below_drew B3.out), Lib.hid (by rw [HSN.out]; exact decide_eq_true hm)⟩
        case measure => simp [intOf]; omega
      · have k3 : (y.mod != c.mod) = true := by simp [hm]
        refine wp_region_noPanic ?_
        refine wp_region_held_drew (S := fun W => W.cell? ⟨yb, 3, none⟩ = some (.int .i64 y.mod) ∧ W.cell? ⟨(ab.add (k * 2)).block, (ab.add (k * 2)).off + 1, none⟩ = some (.int .i64 c.mod)) (by kernel_rfl) (⟨(blk_cell (show w3.drew.heap[yb]? = _ from HY.out) 3).trans rfl, f1⟩) (fun hHeld => ?_)
        refine wTake 0 ?_
        refine wTake 1 ?_
        refine wTake 2 ?_
        refine wTake 3 ?_
        refine wTake 4 ?_
        refine wTake 5 ?_
        refine wTake 6 ?_
        refine wTake 7 ?_
        try simp only [Act.put, List.setIfInBounds_toArray, List.set_cons_zero, List.set_cons_succ]
        refine wpAnyH_done (by kernel_rfl) ?_ _
        refine NoPanic.normal ?_
        clear hHeld
        go_wp2
        go_ret
        exact ⟨congrArg (fun b => Ending.returned (.bool b)) (Bool.eq_false_iff.2 (fun h => hm (HALL.out h))).symm, below_drew B3.out⟩
    · obtain rfl : k = l.length := by omega
      have hgl := HN.out
      rw [List.take_length] at hgl
      go_wp2
      go_ret
      exact ⟨congrArg (fun b => Ending.returned (.bool b)) hgl.symm, HB.out⟩
set_option maxHeartbeats 2000000 in
set_option maxRecDepth 100000 in
theorem listR_any (b : Nat) (m : Md) (A : Option Addr) (ca : Nat) (B : Option Addr) (cb : Nat) (w : World) (hT : Rt w b m A ca B cb) (hn : m.row.length ≤ 1000000000) (q : ByteArray) :
    Calls Try.prog 139 #[.pointer (some ⟨b, 0, none⟩), .string q] w fun e w' => ∃ V, e = .returned V ∧ kEnt.R 62 w' w.heap.size (fun _ => True) V (listL q m.row) ∧ Below w.heap.size w w' := by
  have HT := Lib.hid hT
  clear hT
  go_enter Try.func139, Try.ntmps139
  go_wp2_with fail
  go_loopw [5, 6] (fun out i wr => ∃ k : Nat, k ≤ m.row.length ∧ i = .int .i64 k ∧ Hid (Below w.heap.size w wr) ∧ Hid (kEnt.R 62 wr w.heap.size (fun _ => True) out (listL q (m.row.take k)))) (fun _ i _ => m.row.length - (intOf i).toNat)
  case atStart => exact ⟨0, by omega, rfl, Lib.hid (Below.refl _ _), Lib.hid (Kd.R_nil _ _ _ _ _)⟩
  case round =>
    obtain ⟨k, hk, rfl, HB, HRk⟩ := hrel
    have HT2 := Lib.hid (HT.out.below HB.out)
    have z0 := (blk_cell HT2.out.blk 0).trans rfl
    by_cases hlt : k < m.row.length
    · have i0 : (0 : Int) ≤ (k : Int) := by omega
      have i1 : (k : Int) < (m.row.length : Int) := by omega
      obtain ⟨ab, e0, f0, f1, f2, f3⟩ := at_Ent HT2.out.row hlt
      cases e0
      have hsn : listL q (m.row.take (k + 1)) = listL q (m.row.take k) ++ (if q.data.toList.isPrefixOf m.row[k].key.data.toList = true then [m.row[k]] else []) := by rw [← List.take_append_getElem hlt]; exact listL_snoc
      have hbd := Nat.le_trans (listL_le q (m.row.take k)) (List.length_take_le k m.row)
      obtain ⟨x, hx⟩ : ∃ x, m.row[k] = x := ⟨_, rfl⟩
      rw [hx] at f0 f1 f2 f3 hsn
      have HSN := Lib.hid hsn
      have HX := Lib.hid hx
      clear hx hsn
      go_wp2_with fail
      clear z0 f0 f1 f2 f3
      refine (treeBegins_any x.key q wr).mono ?_
      rintro e w3 ⟨rfl, hd⟩
      have B3 := Lib.hid (below_next0 HB.out hd)
      have R3 := Lib.hid (Kd.R_below HRk.out hd)
      clear hd
      cases hb : q.data.toList.isPrefixOf x.key.data.toList
      · go_wp2
        go_roundw
        case rel => exact ⟨k + 1, by omega, by go_num, B3, by rw [HSN.out]; simpa [hb] using R3⟩
        case measure => simp [intOf]; omega
      · have HT4 := Lib.hid (HT.out.below B3.out)
        have z0 := (blk_cell HT4.out.blk 0).trans rfl
        obtain ⟨ab', e0, f0, f1, f2, f3⟩ := at_Ent HT4.out.row hlt
        cases e0
        rw [HX.out] at f0 f1 f2 f3
        go_wp2_with (at_builtin; refine Kd.R_append kEnt (w0 := w3) w.heap.size rfl (.tmp 26) (.tmp 34) 52 62 (.agg #[.string ⟨#[]⟩, .string ⟨#[]⟩, .int .i64 0, .int .i64 0]) 48 rfl Try.underlying52 infoEnt rfl (by decide) (by omega) _ (listL q (m.row.take k)) x [.string x.key, .string x.val, .int .i64 x.made, .int .i64 x.mod] (fun _ => True) (fun _ => False) rfl rfl (kEnt_mkM _ _ _ _) (fun _ hk => hk.elim) (fun _ _ => trivial) R3.out (Below.refl _ _) B3.out.size (by omega) ?_; intro v1 w4 ho hb4 hg _)
        have R4 := Lib.hid ho
        have B4 := Lib.hid (B3.out.trans hb4)
        clear ho hb4 hg
        go_roundw
        case rel => exact ⟨k + 1, by omega, by go_num, B4, by rw [HSN.out]; simpa [hb] using R4⟩
        case measure => simp [intOf]; omega
    · obtain rfl : k = m.row.length := by omega
      rw [List.take_length] at HRk
      go_wp2
      go_ret
      exact ⟨_, rfl, HRk.out, HB.out⟩
set_option maxHeartbeats 2000000 in
set_option maxRecDepth 100000 in
theorem dropR_any (b : Nat) (m : Md) (A : Option Addr) (ca : Nat) (B : Option Addr) (cb : Nat) (w : World) (hT : Rt w b m A ca B cb) (hn : m.row.length ≤ 1000000000) (q : ByteArray) :
    Calls Try.prog 135 #[.pointer (some ⟨b, 0, none⟩), .string q] w fun e w' => ∃ bb A' ca', e = .returned (.bool bb) ∧ Rt w' b ⟨delL q m.row, m.rev, m.low, m.hap⟩ A' ca' B cb ∧ Kb b w w' ∧ (∀ a, A' = some a → 0 < (delL q m.row).length → w.heap.size ≤ a.block) := by
  have HT := Lib.hid hT
  clear hT
  go_enter Try.func135, Try.ntmps135
  go_wp2_with fail
  go_loopw [5, 6] (fun out i wr => ∃ k : Nat, k ≤ m.row.length ∧ i = .int .i64 k ∧ Hid (Below w.heap.size w wr) ∧ Hid (kEnt.R 62 wr w.heap.size (fun _ => True) out (delL q (m.row.take k)))) (fun _ i _ => m.row.length - (intOf i).toNat)
  case atStart => exact ⟨0, by omega, rfl, Lib.hid (Below.refl _ _), Lib.hid (Kd.R_nil _ _ _ _ _)⟩
  case round =>
    obtain ⟨k, hk, rfl, HB, HRk⟩ := hrel
    have HT2 := Lib.hid (HT.out.below HB.out)
    have z0 := (blk_cell HT2.out.blk 0).trans rfl
    by_cases hlt : k < m.row.length
    · have i0 : (0 : Int) ≤ (k : Int) := by omega
      have i1 : (k : Int) < (m.row.length : Int) := by omega
      obtain ⟨ab, e0, f0, f1, f2, f3⟩ := at_Ent HT2.out.row hlt
      cases e0
      have hsn : delL q (m.row.take (k + 1)) = delL q (m.row.take k) ++ (if m.row[k].key = q then [] else [m.row[k]]) := by rw [← List.take_append_getElem hlt]; exact delL_snoc
      have hbd := Nat.le_trans (del_leN (k := q) (l := m.row.take k)) (List.length_take_le k m.row)
      obtain ⟨x, hx⟩ : ∃ x, m.row[k] = x := ⟨_, rfl⟩
      rw [hx] at f0 f1 f2 f3 hsn
      have HSN := Lib.hid hsn
      have HX := Lib.hid hx
      clear hx hsn
      by_cases hq : x.key = q
      · have k3 := beq_same hq
        have HQ := Lib.hid hq
        clear hq
        go_wp2
        go_roundw
        case rel => exact ⟨k + 1, by omega, by go_num, HB, by rw [HSN.out]; simpa [HQ.out] using HRk⟩
        case measure => simp [intOf]; omega
      · have k3 := beq_ne hq
        have HQ := Lib.hid hq
        clear hq
        go_wp2_with (at_builtin; refine Kd.R_append kEnt (w0 := wr) w.heap.size rfl (.tmp 27) (.tmp 35) 52 62 (.agg #[.string ⟨#[]⟩, .string ⟨#[]⟩, .int .i64 0, .int .i64 0]) 48 rfl Try.underlying52 infoEnt rfl (by decide) (by omega) _ (delL q (m.row.take k)) x [.string x.key, .string x.val, .int .i64 x.made, .int .i64 x.mod] (fun _ => True) (fun _ => False) rfl rfl (kEnt_mkM _ _ _ _) (fun _ hk => hk.elim) (fun _ _ => trivial) HRk.out (Below.refl _ _) HB.out.size (by omega) ?_; intro v1 w4 ho hb4 hg _)
        have R4 := Lib.hid ho
        have B4 := Lib.hid (HB.out.trans hb4)
        clear ho hb4 hg
        go_roundw
        case rel => exact ⟨k + 1, by omega, by go_num, B4, by rw [HSN.out]; simpa [HQ.out] using R4⟩
        case measure => simp [intOf]; omega
    · obtain rfl : k = m.row.length := by omega
      rw [List.take_length] at HRk
      obtain ⟨A2, c2, rfl, hl2, hC2⟩ := Kd.R_reads HRk.out
      have hnw := R_new HRk.out
      have HC2 := Lib.hid hC2
      clear hC2
      have zf := blk_frozen HT2.out.blk 0
      go_wp2
      go_ret
      have hK := Rt.set HT2.out 0 (.slice A2 (delL q m.row).length c2)
      have hRt : Rt _ b ⟨(delL q m.row), m.rev, m.low, m.hap⟩ A2 c2 B cb := ⟨blk_put (cs' := rtC ⟨(delL q m.row), m.rev, m.low, m.hap⟩ A2 c2 B cb) HT2.out.blk 0 (.slice A2 (delL q m.row).length c2) rfl, rt_ent HT2.out hK HC2.out, rt_evt HT2.out hK HT2.out.hap, ⟨hl2, HT2.out.cap.2⟩⟩
      first | exact ⟨_, A2, c2, rfl, hRt, (Kb.of_below HB.out b).trans hK, hnw⟩ | exact ⟨_, A2, ⟨c2, hRt⟩, (Kb.of_below HB.out b).trans hK, hnw⟩ | exact ⟨⟨_, rfl⟩, A2, ⟨c2, hRt⟩, (Kb.of_below HB.out b).trans hK, hnw⟩ | exact ⟨A2, ⟨c2, hRt⟩, (Kb.of_below HB.out b).trans hK, hnw⟩
set_option maxHeartbeats 2000000 in
set_option maxRecDepth 100000 in
theorem putR_any (b : Nat) (m : Md) (A : Option Addr) (ca : Nat) (B : Option Addr) (cb : Nat) (w : World) (hT : Rt w b m A ca B cb) (hn : m.row.length ≤ 1000000000) (x : Ent) :
    Calls Try.prog 136 #[.pointer (some ⟨b, 0, none⟩), entV x] w fun e w' => ∃ v A' ca', e = .returned v ∧ Rt w' b ⟨putR x false m.row, m.rev, m.low, m.hap⟩ A' ca' B cb ∧ Kb b w w' ∧ (∀ a, A' = some a → 0 < (putR x false m.row).length → w.heap.size ≤ a.block) := by
  have HT := Lib.hid hT
  clear hT
  go_enter Try.func136, Try.ntmps136
  simp only [entV]
  go_wp2_with fail
  obtain ⟨pb, hpb⟩ : ∃ X, X = w.heap.size := ⟨_, rfl⟩
  try rw [← hpb]
  have B1 := Lib.hid (below_alloc (Below.refl w.heap.size w) (.cells #[.string x.key, .string x.val, .int .i64 x.made, .int .i64 x.mod] 62))
  have HP := Lib.hid (show (w.alloc (.cells #[.string x.key, .string x.val, .int .i64 x.made, .int .i64 x.mod] 62)).heap[pb]? = some (.cells #[.string x.key, .string x.val, .int .i64 x.made, .int .i64 x.mod] 62 (0, 0)) from hpb ▸ heap_alloc_new w (.cells #[.string x.key, .string x.val, .int .i64 x.made, .int .i64 x.mod] 62))
  have HT1 := Lib.hid (HT.out.below B1.out)
  have lp : pb < (w.alloc (.cells #[.string x.key, .string x.val, .int .i64 x.made, .int .i64 x.mod] 62)).heap.size := blk_lt HP.out
  clear hpb
  generalize w.alloc (.cells #[.string x.key, .string x.val, .int .i64 x.made, .int .i64 x.mod] 62) = w1 at *
  go_loopw [4, 5, 6] (fun out d i wr => ∃ (k : Nat) (d0 : Bool) (o : List Ent), k ≤ m.row.length ∧ i = .int .i64 k ∧ d = .bool d0 ∧ Hid (Below w1.heap.size w1 wr) ∧ Hid (kEnt.R 62 wr w1.heap.size (fun _ => True) out o) ∧ Hid (o ++ putR x d0 (m.row.drop k) = putR x false m.row) ∧ o.length ≤ k + (if d0 = true then 1 else 0)) (fun _ _ i _ => m.row.length - (intOf i).toNat)
  case atStart => exact ⟨0, false, [], by omega, rfl, rfl, Lib.hid (Below.refl _ _), Lib.hid (Kd.R_nil _ _ _ _ _), Lib.hid rfl, by simp⟩
  case round =>
    obtain ⟨k, d0, o, hk, rfl, rfl, HB, HRk, HE, hol⟩ := hrel
    have hol1 : o.length ≤ k + 1 := by (cases d0 <;> simp at hol <;> omega)
    have HT2 := Lib.hid (HT1.out.below HB.out)
    have HP2 := Lib.hid ((HB.out.block _ lp).trans HP.out)
    have z0 := (blk_cell HT2.out.blk 0).trans rfl
    have p0 := (blk_cell HP2.out 0).trans rfl
    have p1 := (blk_cell HP2.out 1).trans rfl
    have p2 := (blk_cell HP2.out 2).trans rfl
    have p3 := (blk_cell HP2.out 3).trans rfl
    by_cases hlt : k < m.row.length
    · have i0 : (0 : Int) ≤ (k : Int) := by omega
      have i1 : (k : Int) < (m.row.length : Int) := by omega
      obtain ⟨ab, e0, f0, f1, f2, f3⟩ := at_Ent HT2.out.row hlt
      cases e0
      have hd := List.drop_eq_getElem_cons hlt
      obtain ⟨y, hy⟩ : ∃ y, m.row[k] = y := ⟨_, rfl⟩
      rw [hy] at f0 f1 f2 f3 hd
      have HX := Lib.hid hy
      have he := HE.out
      rw [hd] at he
      simp only [putR] at he
      clear hy hd HE
      cases d0
      · have hol2 : o.length ≤ k := by simpa using hol
        clear hol hol1
        cases hl : lt x.key y.key
        · have k3 := (gt_eq y.key x.key).trans hl
          rw [if_neg (by simp [hl])] at he
          go_wp2_with fail
          refine wp_region_noPanic ?_
          refine wp_region_held_drew (S := fun W => W.cell? ⟨b, 0, none⟩ = some (.slice (some ab) m.row.length ca) ∧ W.cell? (ab.add (k * 4)) = some (.string y.key) ∧ W.cell? ⟨pb, 0, none⟩ = some (.string x.key)) (by kernel_rfl) (⟨z0, f0, p0⟩) (fun hHeld => ?_)
          refine wTake 0 ?_
          refine wTake 1 ?_
          refine wTake 2 ?_
          try simp only [Act.put, List.setIfInBounds_toArray, List.set_cons_zero, List.set_cons_succ]
          refine wTake 3 ?_
          try simp only [Act.put, List.setIfInBounds_toArray, List.set_cons_zero, List.set_cons_succ]
          refine wTake 4 ?_
          try simp only [Act.put, List.setIfInBounds_toArray, List.set_cons_zero, List.set_cons_succ]
          refine wTake 5 ?_
          try simp only [Act.put, List.setIfInBounds_toArray, List.set_cons_zero, List.set_cons_succ]
          refine wTake 6 ?_
          try simp only [Act.put, List.setIfInBounds_toArray, List.set_cons_zero, List.set_cons_succ]
          refine wTake 7 ?_
          try simp only [Act.put, List.setIfInBounds_toArray, List.set_cons_zero, List.set_cons_succ]
          refine wTake 8 ?_
          try simp only [Act.put, List.setIfInBounds_toArray, List.set_cons_zero, List.set_cons_succ]
          refine wTake 9 ?_
          try simp only [Act.put, List.setIfInBounds_toArray, List.set_cons_zero, List.set_cons_succ]
          refine wTake 10 ?_
          try simp only [Act.put, List.setIfInBounds_toArray, List.set_cons_zero, List.set_cons_succ]
          refine wTake 11 ?_
          try simp only [Act.put, List.setIfInBounds_toArray, List.set_cons_zero, List.set_cons_succ]
          refine wTake 12 ?_
          try simp only [Act.put, List.setIfInBounds_toArray, List.set_cons_zero, List.set_cons_succ]
          refine wTake 13 ?_
          refine wTake 14 ?_
          try simp only [Act.put, List.setIfInBounds_toArray, List.set_cons_zero, List.set_cons_succ]
          refine wpAnyH_done (by kernel_rfl) ?_ _
          refine NoPanic.normal ?_
          clear hHeld z0 f0 f1 f2 f3 p0 p1 p2 p3
          have HB3 := Lib.hid (below_drew HB.out)
          have HT3 := Lib.hid (HT1.out.below HB3.out)
          have z0 := (blk_cell HT3.out.blk 0).trans rfl
          obtain ⟨ab3, e0, f0, f1, f2, f3⟩ := at_Ent HT3.out.row hlt
          cases e0
          rw [HX.out] at f0 f1 f2 f3
          have HP3 := Lib.hid (show wr.drew.heap[pb]? = _ from HP2.out)
          have HR3 := Lib.hid (Kd.R_drew HRk.out)
          generalize wr.drew = wd at *
          go_wp2_with (at_builtin; refine Kd.R_append kEnt (w0 := wd) w1.heap.size rfl (.tmp 35) (.tmp 43) 52 62 (.agg #[.string ⟨#[]⟩, .string ⟨#[]⟩, .int .i64 0, .int .i64 0]) 48 rfl Try.underlying52 infoEnt rfl (by decide) (by omega) _ (o) y [.string y.key, .string y.val, .int .i64 y.made, .int .i64 y.mod] (fun _ => True) (fun _ => False) rfl rfl (kEnt_mkM _ _ _ _) (fun _ hk => hk.elim) (fun _ _ => trivial) HR3.out (Below.refl _ _) HB3.out.size (by omega) ?_; intro v1 w4 ho hb4 hg _)
          have R4 := Lib.hid ho
          have B4 := Lib.hid (HB3.out.trans hb4)
          clear ho hb4 hg
          go_roundw
          case rel => exact ⟨k + 1, false, o ++ [y], by omega, by go_num, rfl, B4, R4, Lib.hid (by rw [← he]; simp), by simp <;> omega⟩
          case measure => simp [intOf]; omega
        · have k3 := (gt_eq y.key x.key).trans hl
          rw [if_pos (by simp [hl])] at he
          go_wp2_with fail
          refine wp_region_noPanic ?_
          refine wp_region_held_drew (S := fun W => W.cell? ⟨b, 0, none⟩ = some (.slice (some ab) m.row.length ca) ∧ W.cell? (ab.add (k * 4)) = some (.string y.key) ∧ W.cell? ⟨pb, 0, none⟩ = some (.string x.key)) (by kernel_rfl) (⟨z0, f0, p0⟩) (fun hHeld => ?_)
          refine wTake 0 ?_
          refine wTake 1 ?_
          refine wTake 2 ?_
          try simp only [Act.put, List.setIfInBounds_toArray, List.set_cons_zero, List.set_cons_succ]
          refine wTake 3 ?_
          try simp only [Act.put, List.setIfInBounds_toArray, List.set_cons_zero, List.set_cons_succ]
          refine wTake 4 ?_
          try simp only [Act.put, List.setIfInBounds_toArray, List.set_cons_zero, List.set_cons_succ]
          refine wTake 5 ?_
          try simp only [Act.put, List.setIfInBounds_toArray, List.set_cons_zero, List.set_cons_succ]
          refine wTake 6 ?_
          try simp only [Act.put, List.setIfInBounds_toArray, List.set_cons_zero, List.set_cons_succ]
          refine wTake 7 ?_
          try simp only [Act.put, List.setIfInBounds_toArray, List.set_cons_zero, List.set_cons_succ]
          refine wTake 8 ?_
          try simp only [Act.put, List.setIfInBounds_toArray, List.set_cons_zero, List.set_cons_succ]
          refine wTake 9 ?_
          try simp only [Act.put, List.setIfInBounds_toArray, List.set_cons_zero, List.set_cons_succ]
          refine wTake 10 ?_
          try simp only [Act.put, List.setIfInBounds_toArray, List.set_cons_zero, List.set_cons_succ]
          refine wTake 11 ?_
          try simp only [Act.put, List.setIfInBounds_toArray, List.set_cons_zero, List.set_cons_succ]
          refine wTake 12 ?_
          try simp only [Act.put, List.setIfInBounds_toArray, List.set_cons_zero, List.set_cons_succ]
          refine wTake 13 ?_
          refine wTake 14 ?_
          try simp only [Act.put, List.setIfInBounds_toArray, List.set_cons_zero, List.set_cons_succ]
          refine wpAnyH_done (by kernel_rfl) ?_ _
          refine NoPanic.normal ?_
          clear hHeld z0 f0 f1 f2 f3 p0 p1 p2 p3
          have HB3 := Lib.hid (below_drew HB.out)
          have HT3 := Lib.hid (HT1.out.below HB3.out)
          have z0 := (blk_cell HT3.out.blk 0).trans rfl
          obtain ⟨ab3, e0, f0, f1, f2, f3⟩ := at_Ent HT3.out.row hlt
          cases e0
          rw [HX.out] at f0 f1 f2 f3
          have HP3 := Lib.hid (show wr.drew.heap[pb]? = _ from HP2.out)
          have HR3 := Lib.hid (Kd.R_drew HRk.out)
          generalize wr.drew = wd at *
          have p0 := (blk_cell HP3.out 0).trans rfl
          have p1 := (blk_cell HP3.out 1).trans rfl
          have p2 := (blk_cell HP3.out 2).trans rfl
          have p3 := (blk_cell HP3.out 3).trans rfl
          go_wp2_with (first | (at_builtin; refine Kd.R_append kEnt (w0 := w5) w1.heap.size rfl (.tmp 35) (.tmp 43) 52 62 (.agg #[.string ⟨#[]⟩, .string ⟨#[]⟩, .int .i64 0, .int .i64 0]) 48 rfl Try.underlying52 infoEnt rfl (by decide) (by omega) _ (o ++ [x]) y [.string y.key, .string y.val, .int .i64 y.made, .int .i64 y.mod] (fun _ => True) (fun _ => False) rfl rfl (kEnt_mkM _ _ _ _) (fun _ hk => hk.elim) (fun _ _ => trivial) R5.out (Below.refl _ _) B5.out.size (by simp <;> omega) ?_; intro v1 w4 ho hb4 hg _) | (at_builtin; refine Kd.R_append kEnt (w0 := wd) w1.heap.size rfl (.tmp 31) (.tmp 33) 52 62 (.agg #[.string ⟨#[]⟩, .string ⟨#[]⟩, .int .i64 0, .int .i64 0]) 48 rfl Try.underlying52 infoEnt rfl (by decide) (by omega) _ (o) x [.string x.key, .string x.val, .int .i64 x.made, .int .i64 x.mod] (fun _ => True) (fun _ => False) rfl rfl (kEnt_mkM _ _ _ _) (fun _ hk => hk.elim) (fun _ _ => trivial) HR3.out (Below.refl _ _) HB3.out.size (by omega) ?_; intro v0 w5 ho5 hb5 hg _; have R5 := Lib.hid ho5; have B5 := Lib.hid (HB3.out.trans hb5); have HT5 := Lib.hid (HT1.out.below B5.out); have z5 := (blk_cell HT5.out.blk 0).trans rfl; obtain ⟨ab5, e0, g0, g1, g2, g3⟩ := at_Ent HT5.out.row hlt; cases e0; rw [HX.out] at g0 g1 g2 g3; clear ho5 hb5 hg z0 f0 f1 f2 f3))
          have R4 := Lib.hid ho
          have B4 := Lib.hid (B5.out.trans hb4)
          clear ho hb4 hg
          go_roundw
          case rel => exact ⟨k + 1, true, o ++ [x] ++ [y], by omega, by go_num, rfl, B4, R4, Lib.hid (by rw [← he]; simp), by simp <;> omega⟩
          case measure => simp [intOf]; omega
      · rw [if_neg (by simp)] at he
        go_wp2_with fail
        refine wp_region_noPanic ?_
        refine wp_region_held_drew (S := fun W => W.cell? ⟨b, 0, none⟩ = some (.slice (some ab) m.row.length ca) ∧ W.cell? (ab.add (k * 4)) = some (.string y.key) ∧ W.cell? ⟨pb, 0, none⟩ = some (.string x.key)) (by kernel_rfl) (⟨z0, f0, p0⟩) (fun hHeld => ?_)
        refine wTake 0 ?_
        refine wTake 1 ?_
        refine wTake 2 ?_
        try simp only [Act.put, List.setIfInBounds_toArray, List.set_cons_zero, List.set_cons_succ]
        refine wSkip 3 ?_
        try simp only [Act.put, List.setIfInBounds_toArray, List.set_cons_zero, List.set_cons_succ]
        refine wSkip 4 ?_
        try simp only [Act.put, List.setIfInBounds_toArray, List.set_cons_zero, List.set_cons_succ]
        refine wSkip 5 ?_
        try simp only [Act.put, List.setIfInBounds_toArray, List.set_cons_zero, List.set_cons_succ]
        refine wSkip 6 ?_
        try simp only [Act.put, List.setIfInBounds_toArray, List.set_cons_zero, List.set_cons_succ]
        refine wSkip 7 ?_
        try simp only [Act.put, List.setIfInBounds_toArray, List.set_cons_zero, List.set_cons_succ]
        refine wSkip 8 ?_
        try simp only [Act.put, List.setIfInBounds_toArray, List.set_cons_zero, List.set_cons_succ]
        refine wSkip 9 ?_
        try simp only [Act.put, List.setIfInBounds_toArray, List.set_cons_zero, List.set_cons_succ]
        refine wSkip 10 ?_
        try simp only [Act.put, List.setIfInBounds_toArray, List.set_cons_zero, List.set_cons_succ]
        refine wSkip 11 ?_
        try simp only [Act.put, List.setIfInBounds_toArray, List.set_cons_zero, List.set_cons_succ]
        refine wSkip 12 ?_
        try simp only [Act.put, List.setIfInBounds_toArray, List.set_cons_zero, List.set_cons_succ]
        refine wSkip 13 ?_
        refine wTake 14 ?_
        try simp only [Act.put, List.setIfInBounds_toArray, List.set_cons_zero, List.set_cons_succ]
        refine wpAnyH_done (by kernel_rfl) ?_ _
        refine NoPanic.normal ?_
        clear hHeld z0 f0 f1 f2 f3 p0 p1 p2 p3
        have HB3 := Lib.hid (below_drew HB.out)
        have HT3 := Lib.hid (HT1.out.below HB3.out)
        have z0 := (blk_cell HT3.out.blk 0).trans rfl
        obtain ⟨ab3, e0, f0, f1, f2, f3⟩ := at_Ent HT3.out.row hlt
        cases e0
        rw [HX.out] at f0 f1 f2 f3
        have HP3 := Lib.hid (show wr.drew.heap[pb]? = _ from HP2.out)
        have HR3 := Lib.hid (Kd.R_drew HRk.out)
        generalize wr.drew = wd at *
        go_wp2_with (at_builtin; refine Kd.R_append kEnt (w0 := wd) w1.heap.size rfl (.tmp 35) (.tmp 43) 52 62 (.agg #[.string ⟨#[]⟩, .string ⟨#[]⟩, .int .i64 0, .int .i64 0]) 48 rfl Try.underlying52 infoEnt rfl (by decide) (by omega) _ (o) y [.string y.key, .string y.val, .int .i64 y.made, .int .i64 y.mod] (fun _ => True) (fun _ => False) rfl rfl (kEnt_mkM _ _ _ _) (fun _ hk => hk.elim) (fun _ _ => trivial) HR3.out (Below.refl _ _) HB3.out.size (by omega) ?_; intro v1 w4 ho hb4 hg _)
        have R4 := Lib.hid ho
        have B4 := Lib.hid (HB3.out.trans hb4)
        clear ho hb4 hg
        go_roundw
        case rel => exact ⟨k + 1, true, o ++ [y], by omega, by go_num, rfl, B4, R4, Lib.hid (by rw [← he]; simp), by simp <;> omega⟩
        case measure => simp [intOf]; omega
    · obtain rfl : k = m.row.length := by omega
      have he := HE.out
      rw [List.drop_length] at he
      simp only [putR] at he
      clear HE
      cases d0
      · rw [if_neg (by simp)] at he
        have zf := blk_frozen HT2.out.blk 0
        go_wp2_with (at_builtin; refine Kd.R_append kEnt (w0 := wr) w1.heap.size rfl (.tmp 47) (.tmp 49) 52 62 (.agg #[.string ⟨#[]⟩, .string ⟨#[]⟩, .int .i64 0, .int .i64 0]) 48 rfl Try.underlying52 infoEnt rfl (by decide) (by omega) _ (o) x [.string x.key, .string x.val, .int .i64 x.made, .int .i64 x.mod] (fun _ => True) (fun _ => False) rfl rfl (kEnt_mkM _ _ _ _) (fun _ hk => hk.elim) (fun _ _ => trivial) HRk.out (Below.refl _ _) HB.out.size (by omega) ?_; intro v1 w4 ho hb4 hg _; have B4 := Lib.hid (HB.out.trans hb4); have HT4 := Lib.hid (HT1.out.below B4.out); have z4 := (blk_cell HT4.out.blk 0).trans rfl; have zf4 := blk_frozen HT4.out.blk 0; obtain ⟨A2, c2, rfl, hl2, hC2⟩ := Kd.R_reads ho; have hnw := fun a ha hp => Nat.le_trans B1.out.size (R_new ho a ha hp); rw [he] at hl2 hC2 hnw; have HC2 := Lib.hid hC2; clear hC2 ho hb4 hg)
        have B5 := Lib.hid (B1.out.trans (B4.out.mono B1.out.size))
        go_end0
        have hK := Rt.set HT4.out 0 (.slice A2 (putR x false m.row).length c2)
        have hRt : Rt _ b ⟨(putR x false m.row), m.rev, m.low, m.hap⟩ A2 c2 B cb := ⟨blk_put (cs' := rtC ⟨(putR x false m.row), m.rev, m.low, m.hap⟩ A2 c2 B cb) HT4.out.blk 0 (.slice A2 (putR x false m.row).length c2) rfl, rt_ent HT4.out hK HC2.out, rt_evt HT4.out hK HT4.out.hap, ⟨hl2, HT4.out.cap.2⟩⟩
        first | exact ⟨_, A2, c2, rfl, hRt, (Kb.of_below B5.out b).trans hK, hnw⟩ | exact ⟨_, A2, ⟨c2, hRt⟩, (Kb.of_below B5.out b).trans hK, hnw⟩ | exact ⟨⟨_, rfl⟩, A2, ⟨c2, hRt⟩, (Kb.of_below B5.out b).trans hK, hnw⟩ | exact ⟨A2, ⟨c2, hRt⟩, (Kb.of_below B5.out b).trans hK, hnw⟩
      · rw [if_pos rfl, List.append_nil] at he
        have zf := blk_frozen HT2.out.blk 0
        obtain ⟨A2, c2, rfl, hl2, hC2⟩ := Kd.R_reads HRk.out
        have hnw := fun a ha hp => Nat.le_trans B1.out.size (R_new HRk.out a ha hp)
        rw [he] at hl2 hC2 hnw
        try rw [he]
        have HC2 := Lib.hid hC2
        clear hC2
        have B5 := Lib.hid (B1.out.trans (HB.out.mono B1.out.size))
        go_wp2
        go_end0
        have hK := Rt.set HT2.out 0 (.slice A2 (putR x false m.row).length c2)
        have hRt : Rt _ b ⟨(putR x false m.row), m.rev, m.low, m.hap⟩ A2 c2 B cb := ⟨blk_put (cs' := rtC ⟨(putR x false m.row), m.rev, m.low, m.hap⟩ A2 c2 B cb) HT2.out.blk 0 (.slice A2 (putR x false m.row).length c2) rfl, rt_ent HT2.out hK HC2.out, rt_evt HT2.out hK HT2.out.hap, ⟨hl2, HT2.out.cap.2⟩⟩
        first | exact ⟨_, A2, c2, rfl, hRt, (Kb.of_below B5.out b).trans hK, hnw⟩ | exact ⟨_, A2, ⟨c2, hRt⟩, (Kb.of_below B5.out b).trans hK, hnw⟩ | exact ⟨⟨_, rfl⟩, A2, ⟨c2, hRt⟩, (Kb.of_below B5.out b).trans hK, hnw⟩ | exact ⟨A2, ⟨c2, hRt⟩, (Kb.of_below B5.out b).trans hK, hnw⟩
end Go.Proofs.Ytobanhbjkomieaa.TA
