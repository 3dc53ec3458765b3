import Derived.Test.YtobanhbjkomieaaRN
import Derived.Test.YtobanhbjkomieaaRL
namespace Go.Proofs.Ytobanhbjkomieaa.RP
open Go.RowKit Go.Proofs.Ytobanhbjkomieaa.PAll Go.Proofs.Ytobanhbjkomieaa.KP Go.Proofs.Ytobanhbjkomieaa.BP Go.Proofs.YtobanhbjkomieaaW.PrintWords Go.Proofs.YtobanhbjkomieaaW.PrintLast Go.Proofs.YtobanhbjkomieaaW.PrintMore
set_option linter.unusedSimpArgs false
set_option linter.unusedVariables false
/-! ### Live -/
abbrev En := S62
def isLive (t : List UInt8) (x : En) : Bool := decide ((readIt x.f0.data.toList x.f1.data.toList).2 = 0) && (decide ((readIt x.f0.data.toList x.f1.data.toList).1.cl ≠ []) && (decide ((readIt x.f0.data.toList x.f1.data.toList).1.ten = t) && !(readIt x.f0.data.toList x.f1.data.toList).1.rc.gone))
def liveL (l : List En) (t : List UInt8) : Nat := l.countP (isLive t)
theorem liveL_snoc {l : List En} {t : List UInt8} {k : Nat} (h : k < l.length) : liveL (l.take (k + 1)) t = liveL (l.take k) t + if isLive t l[k] then 1 else 0 := by
  unfold liveL
  rw [List.take_succ_eq_append_getElem h, List.countP_append]
  simp [List.countP_cons]
theorem liveL_le (l : List En) (t : List UInt8) : liveL l t ≤ l.length := List.countP_le_length
theorem rd_get {l : List En} {k : Nat} (h : k < l.length) : rd_T62 l (k : Int) = l[k] := by
  unfold rd_T62
  simp [h]
set_option maxHeartbeats 2000000 in
set_option maxRecDepth 100000 in
theorem live_any (A : Option Addr) (c : Nat) (l : List En) (t : ByteArray) (w : World) (hc : l.length ≤ c) (hr : Kd.C k62 w A l.length l) (hl : l.length ≤ 1000000000) (hs : ∀ x ∈ l, x.f0.size ≤ 140737488351232 ∧ x.f1.size ≤ 140737488351232) :
    Calls Try.prog 91 #[.slice A l.length c, .string t] w fun e w' => e = .returned (.int .i64 (liveL l t.data.toList)) ∧ Below w.heap.size w w' := by
  have HC := Lib.hid hr
  have HS := Lib.hid hs
  clear hr hs
  go_enter Try.func91, Try.ntmps91
  go_wp2_with fail
  go_loopw [5, 12] (fun n i wr => ∃ k : Nat, k ≤ l.length ∧ i = .int .i64 k ∧ n = .int .i64 (liveL (l.take k) t.data.toList) ∧ Below w.heap.size w wr) (fun _ i _ => l.length - (intOf i).toNat)
  case atStart => exact ⟨0, by omega, rfl, rfl, Below.refl _ _⟩
  case round =>
    obtain ⟨k, hk, rfl, rfl, hbw⟩ := hrel
    by_cases hlt : k < l.length
    · obtain ⟨ad, rfl, f0, f1, f2, f3⟩ := at_T62 (Kd.C_below HC.out hbw) (k : Int) (by omega) (by omega)
      rw [rd_get hlt] at f0 f1 f2 f3
      simp only [Int.toNat_natCast] at f0 f1 f2 f3
      obtain ⟨s0, s1⟩ := HS.out l[k] (List.getElem_mem hlt)
      have hsn := Lib.hid (liveL_snoc (t := t.data.toList) hlt)
      have hle := liveL_le (l.take k) t.data.toList
      have hlk : (l.take k).length ≤ k := List.length_take_le _ _
      obtain ⟨ten, cl, rep, ep, tm, gone, live, eps, e, hv, c1, _⟩ := readBoth l[k].f0 l[k].f1 s0 s1
      have C1 := Lib.hid c1
      have hi : Hid (isLive t.data.toList l[k] = (decide (e = 0) && (decide (cl.data.toList ≠ []) && (decide (ten.data.toList = t.data.toList) && !gone)))) := Lib.hid (by unfold isLive; rw [hv]; rfl)
      clear c1 hv
      generalize l[k] = x at *
      go_wp2_with fail
      refine (C1.out _).mono ?_
      rintro r w1 ⟨rfl, hb1⟩
      have hb2 := Lib.hid ((below_alloc hbw (.cells #[.string x.f0, .string x.f1, .int .i64 x.f2, .int .i64 x.f3] 62)).trans (hb1.mono (by have := hbw.size; simp; omega)))
      clear hb1
      by_cases g0 : e = 0
      · subst g0
        by_cases g1 : cl.data.toList = []
        · have g2 : cl.toList = [] := by rw [Lib.toList_data]; exact g1
          have hii : isLive t.data.toList x = false := by rw [hi.out]; simp [g1]
          go_wp2
          go_roundw
          case rel => exact ⟨k + 1, by omega, by go_num, by rw [hsn.out, hii]; simp, by have := hb2.out; exact below_alloc this _⟩
          case measure => simp [intOf]; omega
        · have g2 : cl.toList.isEmpty = false := by rw [Lib.toList_data]; exact List.isEmpty_eq_false_iff.2 g1
          have g3 : ¬ cl.toList = [] := by rw [Lib.toList_data]; exact g1
          by_cases g4 : ten.data.toList = t.data.toList
          · have g5 : (ten.toList == t.toList) = true := by rw [Lib.toList_data, Lib.toList_data]; exact beq_iff_eq.2 g4
            cases gone
            · have hii : isLive t.data.toList x = true := by rw [hi.out]; simp [g1, g4]
              go_wp2
              go_roundw
              case rel => exact ⟨k + 1, by omega, by go_num, by rw [hsn.out, hii]; simp, by have := hb2.out; exact below_alloc this _⟩
              case measure => simp [intOf]; omega
            · have hii : isLive t.data.toList x = false := by rw [hi.out]; simp
              go_wp2
              go_roundw
              case rel => exact ⟨k + 1, by omega, by go_num, by rw [hsn.out, hii]; simp, by have := hb2.out; exact below_alloc this _⟩
              case measure => simp [intOf]; omega
          · have g5 : (ten.toList == t.toList) = false := by rw [Lib.toList_data, Lib.toList_data]; exact beq_eq_false_iff_ne.2 g4
            have hii : isLive t.data.toList x = false := by rw [hi.out]; simp [g4]
            go_wp2
            go_roundw
            case rel => exact ⟨k + 1, by omega, by go_num, by rw [hsn.out, hii]; simp, by have := hb2.out; exact below_alloc this _⟩
            case measure => simp [intOf]; omega
      · have g1 : (e == 0) = false := beq_eq_false_iff_ne.2 g0
        have hii : isLive t.data.toList x = false := by rw [hi.out]; simp [g0]
        go_wp2
        go_roundw
        case rel => exact ⟨k + 1, by omega, by go_num, by rw [hsn.out, hii]; simp, by have := hb2.out; exact below_alloc this _⟩
        case measure => simp [intOf]; omega
    · go_wp2
      go_ret
      exact ⟨by rw [List.take_of_length_le (by omega)]; rfl, hbw⟩
theorem new_keep8 {W x : World} {cs : Array Value} {T : TypeId} (hb : Below (W.alloc (.cells cs T)).drew.heap.size (W.alloc (.cells cs T)).drew x) : x.heap[W.heap.size]? = some (.cells cs T (0, 0)) := (hb.block W.heap.size (by show _ < (W.alloc _).heap.size; simp)).trans (heap_alloc_new W _)
attribute [local go_sem ↓] Go.wp_at_zero Go.wp_at_succ
set_option maxHeartbeats 2000000 in
set_option maxRecDepth 100000 in
theorem refLive_any (A : Option Addr) (c : Nat) (l : List En) (t : ByteArray) (w : World) (hc : l.length ≤ c) (hr : Kd.C k62 w A l.length l) (hl : l.length ≤ 1000000000) (hs : ∀ x ∈ l, x.f0.size ≤ 140737488351232 ∧ x.f1.size ≤ 140737488351232) :
    Calls Try.prog 92 #[.slice A l.length c, .string t] w fun e w' => e = .returned (.int .i64 (liveL l t.data.toList)) ∧ Below w.heap.size w w' := by
  have HC := Lib.hid hr
  have HS := Lib.hid hs
  clear hr hs
  go_enter Try.func92, Try.ntmps92
  go_wp2_with fail
  go_loopw [5, 6] (fun n i wr => ∃ k : Nat, k ≤ l.length ∧ i = .int .i64 k ∧ n = .int .i64 (liveL (l.take k) t.data.toList) ∧ Below w.heap.size w wr) (fun _ i _ => l.length - (intOf i).toNat)
  case atStart => exact ⟨0, by omega, rfl, rfl, Below.refl _ _⟩
  case round =>
    obtain ⟨k, hk, rfl, rfl, hbw⟩ := hrel
    by_cases hlt : k < l.length
    · obtain ⟨ad, rfl, f0, f1, f2, f3⟩ := at_T62 (Kd.C_below HC.out hbw) (k : Int) (by omega) (by omega)
      rw [rd_get hlt] at f0 f1 f2 f3
      simp only [Int.toNat_natCast] at f0 f1 f2 f3
      obtain ⟨s0, s1⟩ := HS.out l[k] (List.getElem_mem hlt)
      have hsn := Lib.hid (liveL_snoc (t := t.data.toList) hlt)
      have hle := liveL_le (l.take k) t.data.toList
      have hlk : (l.take k).length ≤ k := List.length_take_le _ _
      obtain ⟨ten, cl, rep, ep, tm, gone, live, eps, e, hv, _, c1⟩ := readBoth l[k].f0 l[k].f1 s0 s1
      have C1 := Lib.hid c1
      have hi : Hid (isLive t.data.toList l[k] = (decide (e = 0) && (decide (cl.data.toList ≠ []) && (decide (ten.data.toList = t.data.toList) && !gone)))) := Lib.hid (by unfold isLive; rw [hv]; rfl)
      clear c1 hv f2 f3
      generalize l[k] = x at *
      have i0 : (0 : Int) ≤ (k : Int) := by omega
      have i1 : (k : Int) < (l.length : Int) := by omega
      have n0 := World.new_ne wr _ f0
      have n1 := World.new_ne wr _ f1
      go_wp2_with fail
      go_region_held3 (fun W => W.cell? (ad.add (k * 4)) = some (.string x.f0) ∧ W.cell? ⟨(ad.add (k * 4)).block, (ad.add (k * 4)).off + 1, none⟩ = some (.string x.f1)) (go_keep) ((go_at_call 80; (with_reducible refine (C1.out _).mono ?_); rintro r w1 ⟨rfl, hb1⟩; have d0 := keep_cell (a := ad.add (k * 4)) (v := .string x.f0) hb1 (by simp [*]); have d1 := keep_cell (a := ⟨(ad.add (k * 4)).block, (ad.add (k * 4)).off + 1, none⟩) (v := .string x.f1) hb1 (by simp [*]); (try (have hx := new_keep8 hb1; have c0 := blk_cell hx 0; have g0 := blk_frozen hx 0; have c1 := blk_cell hx 1; have g1 := blk_frozen hx 1; have c2 := blk_cell hx 2; have g2 := blk_frozen hx 2; have c3 := blk_cell hx 3; have g3 := blk_frozen hx 3; have c4 := blk_cell hx 4; have g4 := blk_frozen hx 4; have c5 := blk_cell hx 5; have g5 := blk_frozen hx 5; have c6 := blk_cell hx 6; have g6 := blk_frozen hx 6; have c7 := blk_cell hx 7; have g7 := blk_frozen hx 7; simp only [List.getElem?_toArray, List.getElem?_cons_zero, List.getElem?_cons_succ] at c0 c1 c2 c3 c4 c5 c6 c7; clear hx))))
      · have HW := Lib.hid (below_alloc ((below_drew hbw).trans (hb1.mono hbw.size)) (.cells #[.string ten, .string cl, .string rep, .int .i64 ep, .int .i64 tm, .bool gone, .int .i64 live, .int .i64 eps] 116))
        clear hb1
        by_cases g0 : e = 0
        · subst g0
          by_cases g1 : cl.data.toList = []
          · have g2 : cl.toList = [] := by rw [Lib.toList_data]; exact g1
            have hii : isLive t.data.toList x = false := by rw [hi.out]; simp [g1]
            go_wp2
            go_roundw
            case rel => exact ⟨k + 1, by omega, by go_num, by rw [hsn.out, hii]; simp, HW.out⟩
            case measure => simp [intOf]; omega
          · have g2 : cl.toList.isEmpty = false := by rw [Lib.toList_data]; exact List.isEmpty_eq_false_iff.2 g1
            have g3 : ¬ cl.toList = [] := by rw [Lib.toList_data]; exact g1
            by_cases g4 : ten.data.toList = t.data.toList
            · have g5 : (ten.toList == t.toList) = true := by rw [Lib.toList_data, Lib.toList_data]; exact beq_iff_eq.2 g4
              cases gone
              · have hii : isLive t.data.toList x = true := by rw [hi.out]; simp [g1, g4]
                go_wp2
                go_roundw
                case rel => exact ⟨k + 1, by omega, by go_num, by rw [hsn.out, hii]; simp, HW.out⟩
                case measure => simp [intOf]; omega
              · have hii : isLive t.data.toList x = false := by rw [hi.out]; simp
                go_wp2
                go_roundw
                case rel => exact ⟨k + 1, by omega, by go_num, by rw [hsn.out, hii]; simp, HW.out⟩
                case measure => simp [intOf]; omega
            · have g5 : (ten.toList == t.toList) = false := by rw [Lib.toList_data, Lib.toList_data]; exact beq_eq_false_iff_ne.2 g4
              have hii : isLive t.data.toList x = false := by rw [hi.out]; simp [g4]
              go_wp2
              go_roundw
              case rel => exact ⟨k + 1, by omega, by go_num, by rw [hsn.out, hii]; simp, HW.out⟩
              case measure => simp [intOf]; omega
        · have g1 : (e == 0) = false := beq_eq_false_iff_ne.2 g0
          have hii : isLive t.data.toList x = false := by rw [hi.out]; simp [g0]
          go_wp2
          go_roundw
          case rel => exact ⟨k + 1, by omega, by go_num, by rw [hsn.out, hii]; simp, HW.out⟩
          case measure => simp [intOf]; omega
      · have HW := Lib.hid ((((((((((below_drew (below_alloc hbw (.cells #[.string ⟨#[]⟩, .string ⟨#[]⟩, .string ⟨#[]⟩, .int .i64 0, .int .i64 0, .bool false, .int .i64 0, .int .i64 0] 116))).trans (hb1.mono (by have := hbw.size; simp; omega))).setCell (p := ⟨wr.heap.size, 0, none⟩) hbw.size (.string ten)).setCell (p := ⟨wr.heap.size, 1, none⟩) hbw.size (.string cl)).setCell (p := ⟨wr.heap.size, 2, none⟩) hbw.size (.string rep)).setCell (p := ⟨wr.heap.size, 3, none⟩) hbw.size (.int .i64 ep)).setCell (p := ⟨wr.heap.size, 4, none⟩) hbw.size (.int .i64 tm)).setCell (p := ⟨wr.heap.size, 5, none⟩) hbw.size (.bool gone)).setCell (p := ⟨wr.heap.size, 6, none⟩) hbw.size (.int .i64 live)).setCell (p := ⟨wr.heap.size, 7, none⟩) hbw.size (.int .i64 eps))
        clear hb1
        by_cases g0 : e = 0
        · subst g0
          by_cases g1 : cl.data.toList = []
          · have g2 : cl.toList = [] := by rw [Lib.toList_data]; exact g1
            have hii : isLive t.data.toList x = false := by rw [hi.out]; simp [g1]
            go_wp2
            go_roundw
            case rel => exact ⟨k + 1, by omega, by go_num, by rw [hsn.out, hii]; simp, HW.out⟩
            case measure => simp [intOf]; omega
          · have g2 : cl.toList.isEmpty = false := by rw [Lib.toList_data]; exact List.isEmpty_eq_false_iff.2 g1
            have g3 : ¬ cl.toList = [] := by rw [Lib.toList_data]; exact g1
            by_cases g4 : ten.data.toList = t.data.toList
            · have g5 : (ten.toList == t.toList) = true := by rw [Lib.toList_data, Lib.toList_data]; exact beq_iff_eq.2 g4
              cases gone
              · have hii : isLive t.data.toList x = true := by rw [hi.out]; simp [g1, g4]
                go_wp2
                go_roundw
                case rel => exact ⟨k + 1, by omega, by go_num, by rw [hsn.out, hii]; simp, HW.out⟩
                case measure => simp [intOf]; omega
              · have hii : isLive t.data.toList x = false := by rw [hi.out]; simp
                go_wp2
                go_roundw
                case rel => exact ⟨k + 1, by omega, by go_num, by rw [hsn.out, hii]; simp, HW.out⟩
                case measure => simp [intOf]; omega
            · have g5 : (ten.toList == t.toList) = false := by rw [Lib.toList_data, Lib.toList_data]; exact beq_eq_false_iff_ne.2 g4
              have hii : isLive t.data.toList x = false := by rw [hi.out]; simp [g4]
              go_wp2
              go_roundw
              case rel => exact ⟨k + 1, by omega, by go_num, by rw [hsn.out, hii]; simp, HW.out⟩
              case measure => simp [intOf]; omega
        · have g1 : (e == 0) = false := beq_eq_false_iff_ne.2 g0
          have hii : isLive t.data.toList x = false := by rw [hi.out]; simp [g0]
          go_wp2
          go_roundw
          case rel => exact ⟨k + 1, by omega, by go_num, by rw [hsn.out, hii]; simp, HW.out⟩
          case measure => simp [intOf]; omega
    · go_wp2
      go_ret
      exact ⟨by rw [List.take_of_length_le (by omega)]; rfl, hbw⟩
end Go.Proofs.Ytobanhbjkomieaa.RP
