import Derived.Test.YtobanhbjkomieaaRZSv
namespace Go.Proofs.Ytobanhbjkomieaa.RP
open Go.RowKit Go.Proofs.Ytobanhbjkomieaa.PAll Go.Proofs.Ytobanhbjkomieaa.KP Go.Proofs.Ytobanhbjkomieaa.BP Go.Proofs.YtobanhbjkomieaaW.PrintWords Go.Proofs.YtobanhbjkomieaaW.PrintLast Go.Proofs.YtobanhbjkomieaaW.PrintMore
set_option linter.unusedSimpArgs false
set_option linter.unusedVariables false
attribute [local go_sem high] EQ.eqA25
def modK (n : Int) : Bool := decide (1 ≤ n) && decide (n ≤ 1099511627776)
def zeroR (rep : ByteArray) (ep tm : Int) (gone : Bool) : Bool := rep.toList == ([] : List UInt8) && (ep == 0 && (tm == 0 && (!gone)))
def mayKn (rep : ByteArray) (ep tm : Int) (gone there : Bool) (mod live eps tmod : Int) : Bool :=
 (if there then mayRec rep ep tm && modK mod else zeroR rep ep tm gone && mod == 0) && (if tmod = 0 then live == 0 && eps == 0 else modK tmod && mayTen live eps)
set_option maxHeartbeats 1000000 in
theorem electMod_any (n : Int) (w : World) : Calls Try.prog 113 #[.int .i64 n] w fun e w' => e = .returned (.bool (modK n)) ∧ Below w.heap.size w w' := by
 unfold modK
 by_cases h1 : 1 ≤ n
 ·
  by_cases h2 : n ≤ 1099511627776
  ·
   go_enter Try.func113, Try.ntmps113
   go_wp2
   go_ret
   exact ⟨by simp [h1, h2], Below.refl _ _⟩
  ·
   go_enter Try.func113, Try.ntmps113
   go_wp2
   go_ret
   exact ⟨by simp [h1, h2], Below.refl _ _⟩
 ·
  go_enter Try.func113, Try.ntmps113
  go_wp2
  go_ret
  exact ⟨by rw [decide_eq_false (show ¬ 1 ≤ n by omega)]; rfl, Below.refl _ _⟩
set_option maxHeartbeats 2000000 in
set_option maxRecDepth 100000 in
theorem electMay_zero (z b1 b2 b3 b4 : Bool) (rep : ByteArray) (ep tm : Int) (gone there : Bool) (mod live eps : Int) 
  (eqz : ∀ d W, (Op.equalIn (d + 2) 23 (.agg #[.string rep, .int .i64 ep, .int .i64 tm, .bool gone]) (.agg #[.string ⟨#[]⟩, .int .i64 0, .int .i64 0, .bool false])).run Try.prog W = .ok z W)
  (M1 : Hid (∀ W, Calls Try.prog 85 #[.agg #[.string rep, .int .i64 ep, .int .i64 tm, .bool gone]] W fun e w' => e = .returned (.bool b1) ∧ Below W.heap.size W w'))
  (M2 : Hid (∀ W, Calls Try.prog 87 #[.agg #[.int .i64 live, .int .i64 eps]] W fun e w' => e = .returned (.bool b2) ∧ Below W.heap.size W w'))
  (M3 : Hid (∀ W, Calls Try.prog 113 #[.int .i64 mod] W fun e w' => e = .returned (.bool b3) ∧ Below W.heap.size W w'))
  (M4 : Hid (∀ W, Calls Try.prog 113 #[.int .i64 0] W fun e w' => e = .returned (.bool b4) ∧ Below W.heap.size W w')) (w : World) :
  Calls Try.prog 28 #[.agg #[.string rep, .int .i64 ep, .int .i64 tm, .bool gone, .bool there, .int .i64 mod, .int .i64 live, .int .i64 eps, .int .i64 0]] w fun e w' => e = .returned (.bool ((if there then b1 && b3 else z && mod == 0) && (if 0 = 0 then live == 0 && eps == 0 else b4 && b2))) ∧ Below w.heap.size w w' := by
 cases there
 ·
  cases z
  ·
   go_enter Try.func28, Try.ntmps28
   go_wp2
   go_ret
   exact ⟨by first | rfl | (simp; done) | (simp [*]; done), below_alloc (Below.refl w.heap.size w) (.cells #[.string rep, .int .i64 ep, .int .i64 tm, .bool gone, .bool false, .int .i64 mod, .int .i64 live, .int .i64 eps, .int .i64 0] 30)⟩
  ·
   by_cases hm : mod = 0
   ·
    subst hm
    go_enter Try.func28, Try.ntmps28
    go_wp2
    go_ret
    exact ⟨by first | rfl | (simp; done) | (simp [*]; done), below_alloc (Below.refl w.heap.size w) (.cells #[.string rep, .int .i64 ep, .int .i64 tm, .bool gone, .bool false, .int .i64 0, .int .i64 live, .int .i64 eps, .int .i64 0] 30)⟩
   ·
    have hm' : (mod == 0) = false := beq_eq_false_iff_ne.2 hm
    go_enter Try.func28, Try.ntmps28
    go_wp2
    go_ret
    exact ⟨by first | rfl | (simp; done) | (simp [*]; done), below_alloc (Below.refl w.heap.size w) (.cells #[.string rep, .int .i64 ep, .int .i64 tm, .bool gone, .bool false, .int .i64 mod, .int .i64 live, .int .i64 eps, .int .i64 0] 30)⟩
 ·
  cases z
  ·
   go_enter Try.func28, Try.ntmps28
   go_wp2_with fail
   refine (M1.out _).mono ?_
   rintro e w1 ⟨rfl, hb1⟩
   have HK1 := Lib.hid ((hb1.block (w.heap.size) (by simp)).trans (heap_alloc_new w (.cells #[.string rep, .int .i64 ep, .int .i64 tm, .bool gone, .bool true, .int .i64 mod, .int .i64 live, .int .i64 eps, .int .i64 0] 30)))
   have HB1 := Lib.hid ((below_alloc (Below.refl w.heap.size w) (.cells #[.string rep, .int .i64 ep, .int .i64 tm, .bool gone, .bool true, .int .i64 mod, .int .i64 live, .int .i64 eps, .int .i64 0] 30)).trans (hb1.mono (by simp; try omega)))
   clear hb1
   cases b1
   ·
    have hcK0 := blk_cell HK1.out 0
    have hcK1 := blk_cell HK1.out 1
    have hcK2 := blk_cell HK1.out 2
    have hcK3 := blk_cell HK1.out 3
    have hcK4 := blk_cell HK1.out 4
    have hcK5 := blk_cell HK1.out 5
    have hcK6 := blk_cell HK1.out 6
    have hcK7 := blk_cell HK1.out 7
    have hcK8 := blk_cell HK1.out 8
    have hlK := blk_lt HK1.out
    simp only [List.getElem?_toArray, List.getElem?_cons_zero, List.getElem?_cons_succ] at hcK0 hcK1 hcK2 hcK3 hcK4 hcK5 hcK6 hcK7 hcK8
    go_wp2
    go_ret
    exact ⟨by first | rfl | (simp; done) | (simp [*]; done), HB1.out⟩
   ·
    have hcK0 := blk_cell HK1.out 0
    have hcK1 := blk_cell HK1.out 1
    have hcK2 := blk_cell HK1.out 2
    have hcK3 := blk_cell HK1.out 3
    have hcK4 := blk_cell HK1.out 4
    have hcK5 := blk_cell HK1.out 5
    have hcK6 := blk_cell HK1.out 6
    have hcK7 := blk_cell HK1.out 7
    have hcK8 := blk_cell HK1.out 8
    have hlK := blk_lt HK1.out
    simp only [List.getElem?_toArray, List.getElem?_cons_zero, List.getElem?_cons_succ] at hcK0 hcK1 hcK2 hcK3 hcK4 hcK5 hcK6 hcK7 hcK8
    go_wp2_with fail
    refine (M3.out _).mono ?_
    rintro e w2 ⟨rfl, hb2⟩
    clear hcK0 hcK1 hcK2 hcK3 hcK4 hcK5 hcK6 hcK7 hcK8 hlK
    have HK2 := Lib.hid ((hb2.block _ (by have := blk_lt HK1.out; exact this)).trans HK1.out)
    have HB2 := Lib.hid ((HB1.out).trans (hb2.mono (by have := HB1.out.size; omega)))
    clear hb2
    cases b3
    ·
     have hcK0 := blk_cell HK2.out 0
     have hcK1 := blk_cell HK2.out 1
     have hcK2 := blk_cell HK2.out 2
     have hcK3 := blk_cell HK2.out 3
     have hcK4 := blk_cell HK2.out 4
     have hcK5 := blk_cell HK2.out 5
     have hcK6 := blk_cell HK2.out 6
     have hcK7 := blk_cell HK2.out 7
     have hcK8 := blk_cell HK2.out 8
     have hlK := blk_lt HK2.out
     simp only [List.getElem?_toArray, List.getElem?_cons_zero, List.getElem?_cons_succ] at hcK0 hcK1 hcK2 hcK3 hcK4 hcK5 hcK6 hcK7 hcK8
     go_wp2
     go_ret
     exact ⟨by first | rfl | (simp; done) | (simp [*]; done), HB2.out⟩
    ·
     have hcK0 := blk_cell HK2.out 0
     have hcK1 := blk_cell HK2.out 1
     have hcK2 := blk_cell HK2.out 2
     have hcK3 := blk_cell HK2.out 3
     have hcK4 := blk_cell HK2.out 4
     have hcK5 := blk_cell HK2.out 5
     have hcK6 := blk_cell HK2.out 6
     have hcK7 := blk_cell HK2.out 7
     have hcK8 := blk_cell HK2.out 8
     have hlK := blk_lt HK2.out
     simp only [List.getElem?_toArray, List.getElem?_cons_zero, List.getElem?_cons_succ] at hcK0 hcK1 hcK2 hcK3 hcK4 hcK5 hcK6 hcK7 hcK8
     go_wp2
     go_ret
     exact ⟨by first | rfl | (simp; done) | (simp [*]; done), HB2.out⟩
  ·
   go_enter Try.func28, Try.ntmps28
   go_wp2_with fail
   refine (M1.out _).mono ?_
   rintro e w1 ⟨rfl, hb1⟩
   have HK1 := Lib.hid ((hb1.block (w.heap.size) (by simp)).trans (heap_alloc_new w (.cells #[.string rep, .int .i64 ep, .int .i64 tm, .bool gone, .bool true, .int .i64 mod, .int .i64 live, .int .i64 eps, .int .i64 0] 30)))
   have HB1 := Lib.hid ((below_alloc (Below.refl w.heap.size w) (.cells #[.string rep, .int .i64 ep, .int .i64 tm, .bool gone, .bool true, .int .i64 mod, .int .i64 live, .int .i64 eps, .int .i64 0] 30)).trans (hb1.mono (by simp; try omega)))
   clear hb1
   cases b1
   ·
    have hcK0 := blk_cell HK1.out 0
    have hcK1 := blk_cell HK1.out 1
    have hcK2 := blk_cell HK1.out 2
    have hcK3 := blk_cell HK1.out 3
    have hcK4 := blk_cell HK1.out 4
    have hcK5 := blk_cell HK1.out 5
    have hcK6 := blk_cell HK1.out 6
    have hcK7 := blk_cell HK1.out 7
    have hcK8 := blk_cell HK1.out 8
    have hlK := blk_lt HK1.out
    simp only [List.getElem?_toArray, List.getElem?_cons_zero, List.getElem?_cons_succ] at hcK0 hcK1 hcK2 hcK3 hcK4 hcK5 hcK6 hcK7 hcK8
    go_wp2
    go_ret
    exact ⟨by first | rfl | (simp; done) | (simp [*]; done), HB1.out⟩
   ·
    have hcK0 := blk_cell HK1.out 0
    have hcK1 := blk_cell HK1.out 1
    have hcK2 := blk_cell HK1.out 2
    have hcK3 := blk_cell HK1.out 3
    have hcK4 := blk_cell HK1.out 4
    have hcK5 := blk_cell HK1.out 5
    have hcK6 := blk_cell HK1.out 6
    have hcK7 := blk_cell HK1.out 7
    have hcK8 := blk_cell HK1.out 8
    have hlK := blk_lt HK1.out
    simp only [List.getElem?_toArray, List.getElem?_cons_zero, List.getElem?_cons_succ] at hcK0 hcK1 hcK2 hcK3 hcK4 hcK5 hcK6 hcK7 hcK8
    go_wp2_with fail
    refine (M3.out _).mono ?_
    rintro e w2 ⟨rfl, hb2⟩
    clear hcK0 hcK1 hcK2 hcK3 hcK4 hcK5 hcK6 hcK7 hcK8 hlK
    have HK2 := Lib.hid ((hb2.block _ (by have := blk_lt HK1.out; exact this)).trans HK1.out)
    have HB2 := Lib.hid ((HB1.out).trans (hb2.mono (by have := HB1.out.size; omega)))
    clear hb2
    cases b3
    ·
     have hcK0 := blk_cell HK2.out 0
     have hcK1 := blk_cell HK2.out 1
     have hcK2 := blk_cell HK2.out 2
     have hcK3 := blk_cell HK2.out 3
     have hcK4 := blk_cell HK2.out 4
     have hcK5 := blk_cell HK2.out 5
     have hcK6 := blk_cell HK2.out 6
     have hcK7 := blk_cell HK2.out 7
     have hcK8 := blk_cell HK2.out 8
     have hlK := blk_lt HK2.out
     simp only [List.getElem?_toArray, List.getElem?_cons_zero, List.getElem?_cons_succ] at hcK0 hcK1 hcK2 hcK3 hcK4 hcK5 hcK6 hcK7 hcK8
     go_wp2
     go_ret
     exact ⟨by first | rfl | (simp; done) | (simp [*]; done), HB2.out⟩
    ·
     have hcK0 := blk_cell HK2.out 0
     have hcK1 := blk_cell HK2.out 1
     have hcK2 := blk_cell HK2.out 2
     have hcK3 := blk_cell HK2.out 3
     have hcK4 := blk_cell HK2.out 4
     have hcK5 := blk_cell HK2.out 5
     have hcK6 := blk_cell HK2.out 6
     have hcK7 := blk_cell HK2.out 7
     have hcK8 := blk_cell HK2.out 8
     have hlK := blk_lt HK2.out
     simp only [List.getElem?_toArray, List.getElem?_cons_zero, List.getElem?_cons_succ] at hcK0 hcK1 hcK2 hcK3 hcK4 hcK5 hcK6 hcK7 hcK8
     go_wp2
     go_ret
     exact ⟨by first | rfl | (simp; done) | (simp [*]; done), HB2.out⟩
set_option maxHeartbeats 2000000 in
set_option maxRecDepth 100000 in
theorem electMay_some (z b1 b2 b3 b4 : Bool) (rep : ByteArray) (ep tm : Int) (gone there : Bool) (mod live eps tmod : Int) (ht : (tmod == 0) = false) (ht' : ¬ tmod = 0)
  (eqz : ∀ d W, (Op.equalIn (d + 2) 23 (.agg #[.string rep, .int .i64 ep, .int .i64 tm, .bool gone]) (.agg #[.string ⟨#[]⟩, .int .i64 0, .int .i64 0, .bool false])).run Try.prog W = .ok z W)
  (M1 : Hid (∀ W, Calls Try.prog 85 #[.agg #[.string rep, .int .i64 ep, .int .i64 tm, .bool gone]] W fun e w' => e = .returned (.bool b1) ∧ Below W.heap.size W w'))
  (M2 : Hid (∀ W, Calls Try.prog 87 #[.agg #[.int .i64 live, .int .i64 eps]] W fun e w' => e = .returned (.bool b2) ∧ Below W.heap.size W w'))
  (M3 : Hid (∀ W, Calls Try.prog 113 #[.int .i64 mod] W fun e w' => e = .returned (.bool b3) ∧ Below W.heap.size W w'))
  (M4 : Hid (∀ W, Calls Try.prog 113 #[.int .i64 tmod] W fun e w' => e = .returned (.bool b4) ∧ Below W.heap.size W w')) (w : World) :
  Calls Try.prog 28 #[.agg #[.string rep, .int .i64 ep, .int .i64 tm, .bool gone, .bool there, .int .i64 mod, .int .i64 live, .int .i64 eps, .int .i64 tmod]] w fun e w' => e = .returned (.bool ((if there then b1 && b3 else z && mod == 0) && (if tmod = 0 then live == 0 && eps == 0 else b4 && b2))) ∧ Below w.heap.size w w' := by
 cases there
 ·
  cases z
  ·
   go_enter Try.func28, Try.ntmps28
   go_wp2_with fail
   refine (M4.out _).mono ?_
   rintro e w1 ⟨rfl, hb1⟩
   have HK1 := Lib.hid ((hb1.block (w.heap.size) (by simp)).trans (heap_alloc_new w (.cells #[.string rep, .int .i64 ep, .int .i64 tm, .bool gone, .bool false, .int .i64 mod, .int .i64 live, .int .i64 eps, .int .i64 tmod] 30)))
   have HB1 := Lib.hid ((below_alloc (Below.refl w.heap.size w) (.cells #[.string rep, .int .i64 ep, .int .i64 tm, .bool gone, .bool false, .int .i64 mod, .int .i64 live, .int .i64 eps, .int .i64 tmod] 30)).trans (hb1.mono (by simp; try omega)))
   clear hb1
   cases b4
   ·
    have hcK0 := blk_cell HK1.out 0
    have hcK1 := blk_cell HK1.out 1
    have hcK2 := blk_cell HK1.out 2
    have hcK3 := blk_cell HK1.out 3
    have hcK4 := blk_cell HK1.out 4
    have hcK5 := blk_cell HK1.out 5
    have hcK6 := blk_cell HK1.out 6
    have hcK7 := blk_cell HK1.out 7
    have hcK8 := blk_cell HK1.out 8
    have hlK := blk_lt HK1.out
    simp only [List.getElem?_toArray, List.getElem?_cons_zero, List.getElem?_cons_succ] at hcK0 hcK1 hcK2 hcK3 hcK4 hcK5 hcK6 hcK7 hcK8
    go_wp2
    go_ret
    exact ⟨by first | rfl | (simp; done) | (simp [*]; done), HB1.out⟩
   ·
    have hcK0 := blk_cell HK1.out 0
    have hcK1 := blk_cell HK1.out 1
    have hcK2 := blk_cell HK1.out 2
    have hcK3 := blk_cell HK1.out 3
    have hcK4 := blk_cell HK1.out 4
    have hcK5 := blk_cell HK1.out 5
    have hcK6 := blk_cell HK1.out 6
    have hcK7 := blk_cell HK1.out 7
    have hcK8 := blk_cell HK1.out 8
    have hlK := blk_lt HK1.out
    simp only [List.getElem?_toArray, List.getElem?_cons_zero, List.getElem?_cons_succ] at hcK0 hcK1 hcK2 hcK3 hcK4 hcK5 hcK6 hcK7 hcK8
    go_wp2_with fail
    refine (M2.out _).mono ?_
    rintro e w2 ⟨rfl, hb2⟩
    clear hcK0 hcK1 hcK2 hcK3 hcK4 hcK5 hcK6 hcK7 hcK8 hlK
    have HK2 := Lib.hid ((hb2.block _ (by have := blk_lt HK1.out; exact this)).trans HK1.out)
    have HB2 := Lib.hid ((HB1.out).trans (hb2.mono (by have := HB1.out.size; omega)))
    clear hb2
    go_wp2
    go_ret
    exact ⟨by first | rfl | (simp; done) | (simp [*]; done), HB2.out⟩
  ·
   by_cases hm : mod = 0
   ·
    subst hm
    go_enter Try.func28, Try.ntmps28
    go_wp2_with fail
    refine (M4.out _).mono ?_
    rintro e w1 ⟨rfl, hb1⟩
    have HK1 := Lib.hid ((hb1.block (w.heap.size) (by simp)).trans (heap_alloc_new w (.cells #[.string rep, .int .i64 ep, .int .i64 tm, .bool gone, .bool false, .int .i64 0, .int .i64 live, .int .i64 eps, .int .i64 tmod] 30)))
    have HB1 := Lib.hid ((below_alloc (Below.refl w.heap.size w) (.cells #[.string rep, .int .i64 ep, .int .i64 tm, .bool gone, .bool false, .int .i64 0, .int .i64 live, .int .i64 eps, .int .i64 tmod] 30)).trans (hb1.mono (by simp; try omega)))
    clear hb1
    cases b4
    ·
     have hcK0 := blk_cell HK1.out 0
     have hcK1 := blk_cell HK1.out 1
     have hcK2 := blk_cell HK1.out 2
     have hcK3 := blk_cell HK1.out 3
     have hcK4 := blk_cell HK1.out 4
     have hcK5 := blk_cell HK1.out 5
     have hcK6 := blk_cell HK1.out 6
     have hcK7 := blk_cell HK1.out 7
     have hcK8 := blk_cell HK1.out 8
     have hlK := blk_lt HK1.out
     simp only [List.getElem?_toArray, List.getElem?_cons_zero, List.getElem?_cons_succ] at hcK0 hcK1 hcK2 hcK3 hcK4 hcK5 hcK6 hcK7 hcK8
     go_wp2
     go_ret
     exact ⟨by first | rfl | (simp; done) | (simp [*]; done), HB1.out⟩
    ·
     have hcK0 := blk_cell HK1.out 0
     have hcK1 := blk_cell HK1.out 1
     have hcK2 := blk_cell HK1.out 2
     have hcK3 := blk_cell HK1.out 3
     have hcK4 := blk_cell HK1.out 4
     have hcK5 := blk_cell HK1.out 5
     have hcK6 := blk_cell HK1.out 6
     have hcK7 := blk_cell HK1.out 7
     have hcK8 := blk_cell HK1.out 8
     have hlK := blk_lt HK1.out
     simp only [List.getElem?_toArray, List.getElem?_cons_zero, List.getElem?_cons_succ] at hcK0 hcK1 hcK2 hcK3 hcK4 hcK5 hcK6 hcK7 hcK8
     go_wp2_with fail
     refine (M2.out _).mono ?_
     rintro e w2 ⟨rfl, hb2⟩
     clear hcK0 hcK1 hcK2 hcK3 hcK4 hcK5 hcK6 hcK7 hcK8 hlK
     have HK2 := Lib.hid ((hb2.block _ (by have := blk_lt HK1.out; exact this)).trans HK1.out)
     have HB2 := Lib.hid ((HB1.out).trans (hb2.mono (by have := HB1.out.size; omega)))
     clear hb2
     go_wp2
     go_ret
     exact ⟨by first | rfl | (simp; done) | (simp [*]; done), HB2.out⟩
   ·
    have hm' : (mod == 0) = false := beq_eq_false_iff_ne.2 hm
    go_enter Try.func28, Try.ntmps28
    go_wp2_with fail
    refine (M4.out _).mono ?_
    rintro e w1 ⟨rfl, hb1⟩
    have HK1 := Lib.hid ((hb1.block (w.heap.size) (by simp)).trans (heap_alloc_new w (.cells #[.string rep, .int .i64 ep, .int .i64 tm, .bool gone, .bool false, .int .i64 mod, .int .i64 live, .int .i64 eps, .int .i64 tmod] 30)))
    have HB1 := Lib.hid ((below_alloc (Below.refl w.heap.size w) (.cells #[.string rep, .int .i64 ep, .int .i64 tm, .bool gone, .bool false, .int .i64 mod, .int .i64 live, .int .i64 eps, .int .i64 tmod] 30)).trans (hb1.mono (by simp; try omega)))
    clear hb1
    cases b4
    ·
     have hcK0 := blk_cell HK1.out 0
     have hcK1 := blk_cell HK1.out 1
     have hcK2 := blk_cell HK1.out 2
     have hcK3 := blk_cell HK1.out 3
     have hcK4 := blk_cell HK1.out 4
     have hcK5 := blk_cell HK1.out 5
     have hcK6 := blk_cell HK1.out 6
     have hcK7 := blk_cell HK1.out 7
     have hcK8 := blk_cell HK1.out 8
     have hlK := blk_lt HK1.out
     simp only [List.getElem?_toArray, List.getElem?_cons_zero, List.getElem?_cons_succ] at hcK0 hcK1 hcK2 hcK3 hcK4 hcK5 hcK6 hcK7 hcK8
     go_wp2
     go_ret
     exact ⟨by first | rfl | (simp; done) | (simp [*]; done), HB1.out⟩
    ·
     have hcK0 := blk_cell HK1.out 0
     have hcK1 := blk_cell HK1.out 1
     have hcK2 := blk_cell HK1.out 2
     have hcK3 := blk_cell HK1.out 3
     have hcK4 := blk_cell HK1.out 4
     have hcK5 := blk_cell HK1.out 5
     have hcK6 := blk_cell HK1.out 6
     have hcK7 := blk_cell HK1.out 7
     have hcK8 := blk_cell HK1.out 8
     have hlK := blk_lt HK1.out
     simp only [List.getElem?_toArray, List.getElem?_cons_zero, List.getElem?_cons_succ] at hcK0 hcK1 hcK2 hcK3 hcK4 hcK5 hcK6 hcK7 hcK8
     go_wp2_with fail
     refine (M2.out _).mono ?_
     rintro e w2 ⟨rfl, hb2⟩
     clear hcK0 hcK1 hcK2 hcK3 hcK4 hcK5 hcK6 hcK7 hcK8 hlK
     have HK2 := Lib.hid ((hb2.block _ (by have := blk_lt HK1.out; exact this)).trans HK1.out)
     have HB2 := Lib.hid ((HB1.out).trans (hb2.mono (by have := HB1.out.size; omega)))
     clear hb2
     go_wp2
     go_ret
     exact ⟨by first | rfl | (simp; done) | (simp [*]; done), HB2.out⟩
 ·
  cases z
  ·
   go_enter Try.func28, Try.ntmps28
   go_wp2_with fail
   refine (M1.out _).mono ?_
   rintro e w1 ⟨rfl, hb1⟩
   have HK1 := Lib.hid ((hb1.block (w.heap.size) (by simp)).trans (heap_alloc_new w (.cells #[.string rep, .int .i64 ep, .int .i64 tm, .bool gone, .bool true, .int .i64 mod, .int .i64 live, .int .i64 eps, .int .i64 tmod] 30)))
   have HB1 := Lib.hid ((below_alloc (Below.refl w.heap.size w) (.cells #[.string rep, .int .i64 ep, .int .i64 tm, .bool gone, .bool true, .int .i64 mod, .int .i64 live, .int .i64 eps, .int .i64 tmod] 30)).trans (hb1.mono (by simp; try omega)))
   clear hb1
   cases b1
   ·
    have hcK0 := blk_cell HK1.out 0
    have hcK1 := blk_cell HK1.out 1
    have hcK2 := blk_cell HK1.out 2
    have hcK3 := blk_cell HK1.out 3
    have hcK4 := blk_cell HK1.out 4
    have hcK5 := blk_cell HK1.out 5
    have hcK6 := blk_cell HK1.out 6
    have hcK7 := blk_cell HK1.out 7
    have hcK8 := blk_cell HK1.out 8
    have hlK := blk_lt HK1.out
    simp only [List.getElem?_toArray, List.getElem?_cons_zero, List.getElem?_cons_succ] at hcK0 hcK1 hcK2 hcK3 hcK4 hcK5 hcK6 hcK7 hcK8
    go_wp2_with fail
    refine (M4.out _).mono ?_
    rintro e w2 ⟨rfl, hb2⟩
    clear hcK0 hcK1 hcK2 hcK3 hcK4 hcK5 hcK6 hcK7 hcK8 hlK
    have HK2 := Lib.hid ((hb2.block _ (by have := blk_lt HK1.out; exact this)).trans HK1.out)
    have HB2 := Lib.hid ((HB1.out).trans (hb2.mono (by have := HB1.out.size; omega)))
    clear hb2
    cases b4
    ·
     have hcK0 := blk_cell HK2.out 0
     have hcK1 := blk_cell HK2.out 1
     have hcK2 := blk_cell HK2.out 2
     have hcK3 := blk_cell HK2.out 3
     have hcK4 := blk_cell HK2.out 4
     have hcK5 := blk_cell HK2.out 5
     have hcK6 := blk_cell HK2.out 6
     have hcK7 := blk_cell HK2.out 7
     have hcK8 := blk_cell HK2.out 8
     have hlK := blk_lt HK2.out
     simp only [List.getElem?_toArray, List.getElem?_cons_zero, List.getElem?_cons_succ] at hcK0 hcK1 hcK2 hcK3 hcK4 hcK5 hcK6 hcK7 hcK8
     go_wp2
     go_ret
     exact ⟨by first | rfl | (simp; done) | (simp [*]; done), HB2.out⟩
    ·
     have hcK0 := blk_cell HK2.out 0
     have hcK1 := blk_cell HK2.out 1
     have hcK2 := blk_cell HK2.out 2
     have hcK3 := blk_cell HK2.out 3
     have hcK4 := blk_cell HK2.out 4
     have hcK5 := blk_cell HK2.out 5
     have hcK6 := blk_cell HK2.out 6
     have hcK7 := blk_cell HK2.out 7
     have hcK8 := blk_cell HK2.out 8
     have hlK := blk_lt HK2.out
     simp only [List.getElem?_toArray, List.getElem?_cons_zero, List.getElem?_cons_succ] at hcK0 hcK1 hcK2 hcK3 hcK4 hcK5 hcK6 hcK7 hcK8
     go_wp2_with fail
     refine (M2.out _).mono ?_
     rintro e w3 ⟨rfl, hb3⟩
     clear hcK0 hcK1 hcK2 hcK3 hcK4 hcK5 hcK6 hcK7 hcK8 hlK
     have HK3 := Lib.hid ((hb3.block _ (by have := blk_lt HK2.out; exact this)).trans HK2.out)
     have HB3 := Lib.hid ((HB2.out).trans (hb3.mono (by have := HB2.out.size; omega)))
     clear hb3
     go_wp2
     go_ret
     exact ⟨by first | rfl | (simp; done) | (simp [*]; done), HB3.out⟩
   ·
    have hcK0 := blk_cell HK1.out 0
    have hcK1 := blk_cell HK1.out 1
    have hcK2 := blk_cell HK1.out 2
    have hcK3 := blk_cell HK1.out 3
    have hcK4 := blk_cell HK1.out 4
    have hcK5 := blk_cell HK1.out 5
    have hcK6 := blk_cell HK1.out 6
    have hcK7 := blk_cell HK1.out 7
    have hcK8 := blk_cell HK1.out 8
    have hlK := blk_lt HK1.out
    simp only [List.getElem?_toArray, List.getElem?_cons_zero, List.getElem?_cons_succ] at hcK0 hcK1 hcK2 hcK3 hcK4 hcK5 hcK6 hcK7 hcK8
    go_wp2_with fail
    refine (M3.out _).mono ?_
    rintro e w2 ⟨rfl, hb2⟩
    clear hcK0 hcK1 hcK2 hcK3 hcK4 hcK5 hcK6 hcK7 hcK8 hlK
    have HK2 := Lib.hid ((hb2.block _ (by have := blk_lt HK1.out; exact this)).trans HK1.out)
    have HB2 := Lib.hid ((HB1.out).trans (hb2.mono (by have := HB1.out.size; omega)))
    clear hb2
    cases b3
    ·
     have hcK0 := blk_cell HK2.out 0
     have hcK1 := blk_cell HK2.out 1
     have hcK2 := blk_cell HK2.out 2
     have hcK3 := blk_cell HK2.out 3
     have hcK4 := blk_cell HK2.out 4
     have hcK5 := blk_cell HK2.out 5
     have hcK6 := blk_cell HK2.out 6
     have hcK7 := blk_cell HK2.out 7
     have hcK8 := blk_cell HK2.out 8
     have hlK := blk_lt HK2.out
     simp only [List.getElem?_toArray, List.getElem?_cons_zero, List.getElem?_cons_succ] at hcK0 hcK1 hcK2 hcK3 hcK4 hcK5 hcK6 hcK7 hcK8
     go_wp2_with fail
     refine (M4.out _).mono ?_
     rintro e w3 ⟨rfl, hb3⟩
     clear hcK0 hcK1 hcK2 hcK3 hcK4 hcK5 hcK6 hcK7 hcK8 hlK
     have HK3 := Lib.hid ((hb3.block _ (by have := blk_lt HK2.out; exact this)).trans HK2.out)
     have HB3 := Lib.hid ((HB2.out).trans (hb3.mono (by have := HB2.out.size; omega)))
     clear hb3
     cases b4
     ·
      have hcK0 := blk_cell HK3.out 0
      have hcK1 := blk_cell HK3.out 1
      have hcK2 := blk_cell HK3.out 2
      have hcK3 := blk_cell HK3.out 3
      have hcK4 := blk_cell HK3.out 4
      have hcK5 := blk_cell HK3.out 5
      have hcK6 := blk_cell HK3.out 6
      have hcK7 := blk_cell HK3.out 7
      have hcK8 := blk_cell HK3.out 8
      have hlK := blk_lt HK3.out
      simp only [List.getElem?_toArray, List.getElem?_cons_zero, List.getElem?_cons_succ] at hcK0 hcK1 hcK2 hcK3 hcK4 hcK5 hcK6 hcK7 hcK8
      go_wp2
      go_ret
      exact ⟨by first | rfl | (simp; done) | (simp [*]; done), HB3.out⟩
     ·
      have hcK0 := blk_cell HK3.out 0
      have hcK1 := blk_cell HK3.out 1
      have hcK2 := blk_cell HK3.out 2
      have hcK3 := blk_cell HK3.out 3
      have hcK4 := blk_cell HK3.out 4
      have hcK5 := blk_cell HK3.out 5
      have hcK6 := blk_cell HK3.out 6
      have hcK7 := blk_cell HK3.out 7
      have hcK8 := blk_cell HK3.out 8
      have hlK := blk_lt HK3.out
      simp only [List.getElem?_toArray, List.getElem?_cons_zero, List.getElem?_cons_succ] at hcK0 hcK1 hcK2 hcK3 hcK4 hcK5 hcK6 hcK7 hcK8
      go_wp2_with fail
      refine (M2.out _).mono ?_
      rintro e w4 ⟨rfl, hb4⟩
      clear hcK0 hcK1 hcK2 hcK3 hcK4 hcK5 hcK6 hcK7 hcK8 hlK
      have HK4 := Lib.hid ((hb4.block _ (by have := blk_lt HK3.out; exact this)).trans HK3.out)
      have HB4 := Lib.hid ((HB3.out).trans (hb4.mono (by have := HB3.out.size; omega)))
      clear hb4
      go_wp2
      go_ret
      exact ⟨by first | rfl | (simp; done) | (simp [*]; done), HB4.out⟩
    ·
     have hcK0 := blk_cell HK2.out 0
     have hcK1 := blk_cell HK2.out 1
     have hcK2 := blk_cell HK2.out 2
     have hcK3 := blk_cell HK2.out 3
     have hcK4 := blk_cell HK2.out 4
     have hcK5 := blk_cell HK2.out 5
     have hcK6 := blk_cell HK2.out 6
     have hcK7 := blk_cell HK2.out 7
     have hcK8 := blk_cell HK2.out 8
     have hlK := blk_lt HK2.out
     simp only [List.getElem?_toArray, List.getElem?_cons_zero, List.getElem?_cons_succ] at hcK0 hcK1 hcK2 hcK3 hcK4 hcK5 hcK6 hcK7 hcK8
     go_wp2_with fail
     refine (M4.out _).mono ?_
     rintro e w3 ⟨rfl, hb3⟩
     clear hcK0 hcK1 hcK2 hcK3 hcK4 hcK5 hcK6 hcK7 hcK8 hlK
     have HK3 := Lib.hid ((hb3.block _ (by have := blk_lt HK2.out; exact this)).trans HK2.out)
     have HB3 := Lib.hid ((HB2.out).trans (hb3.mono (by have := HB2.out.size; omega)))
     clear hb3
     cases b4
     ·
      have hcK0 := blk_cell HK3.out 0
      have hcK1 := blk_cell HK3.out 1
      have hcK2 := blk_cell HK3.out 2
      have hcK3 := blk_cell HK3.out 3
      have hcK4 := blk_cell HK3.out 4
      have hcK5 := blk_cell HK3.out 5
      have hcK6 := blk_cell HK3.out 6
      have hcK7 := blk_cell HK3.out 7
      have hcK8 := blk_cell HK3.out 8
      have hlK := blk_lt HK3.out
      simp only [List.getElem?_toArray, List.getElem?_cons_zero, List.getElem?_cons_succ] at hcK0 hcK1 hcK2 hcK3 hcK4 hcK5 hcK6 hcK7 hcK8
      go_wp2
      go_ret
      exact ⟨by first | rfl | (simp; done) | (simp [*]; done), HB3.out⟩
     ·
      have hcK0 := blk_cell HK3.out 0
      have hcK1 := blk_cell HK3.out 1
      have hcK2 := blk_cell HK3.out 2
      have hcK3 := blk_cell HK3.out 3
      have hcK4 := blk_cell HK3.out 4
      have hcK5 := blk_cell HK3.out 5
      have hcK6 := blk_cell HK3.out 6
      have hcK7 := blk_cell HK3.out 7
      have hcK8 := blk_cell HK3.out 8
      have hlK := blk_lt HK3.out
      simp only [List.getElem?_toArray, List.getElem?_cons_zero, List.getElem?_cons_succ] at hcK0 hcK1 hcK2 hcK3 hcK4 hcK5 hcK6 hcK7 hcK8
      go_wp2_with fail
      refine (M2.out _).mono ?_
      rintro e w4 ⟨rfl, hb4⟩
      clear hcK0 hcK1 hcK2 hcK3 hcK4 hcK5 hcK6 hcK7 hcK8 hlK
      have HK4 := Lib.hid ((hb4.block _ (by have := blk_lt HK3.out; exact this)).trans HK3.out)
      have HB4 := Lib.hid ((HB3.out).trans (hb4.mono (by have := HB3.out.size; omega)))
      clear hb4
      go_wp2
      go_ret
      exact ⟨by first | rfl | (simp; done) | (simp [*]; done), HB4.out⟩
  ·
   go_enter Try.func28, Try.ntmps28
   go_wp2_with fail
   refine (M1.out _).mono ?_
   rintro e w1 ⟨rfl, hb1⟩
   have HK1 := Lib.hid ((hb1.block (w.heap.size) (by simp)).trans (heap_alloc_new w (.cells #[.string rep, .int .i64 ep, .int .i64 tm, .bool gone, .bool true, .int .i64 mod, .int .i64 live, .int .i64 eps, .int .i64 tmod] 30)))
   have HB1 := Lib.hid ((below_alloc (Below.refl w.heap.size w) (.cells #[.string rep, .int .i64 ep, .int .i64 tm, .bool gone, .bool true, .int .i64 mod, .int .i64 live, .int .i64 eps, .int .i64 tmod] 30)).trans (hb1.mono (by simp; try omega)))
   clear hb1
   cases b1
   ·
    have hcK0 := blk_cell HK1.out 0
    have hcK1 := blk_cell HK1.out 1
    have hcK2 := blk_cell HK1.out 2
    have hcK3 := blk_cell HK1.out 3
    have hcK4 := blk_cell HK1.out 4
    have hcK5 := blk_cell HK1.out 5
    have hcK6 := blk_cell HK1.out 6
    have hcK7 := blk_cell HK1.out 7
    have hcK8 := blk_cell HK1.out 8
    have hlK := blk_lt HK1.out
    simp only [List.getElem?_toArray, List.getElem?_cons_zero, List.getElem?_cons_succ] at hcK0 hcK1 hcK2 hcK3 hcK4 hcK5 hcK6 hcK7 hcK8
    go_wp2_with fail
    refine (M4.out _).mono ?_
    rintro e w2 ⟨rfl, hb2⟩
    clear hcK0 hcK1 hcK2 hcK3 hcK4 hcK5 hcK6 hcK7 hcK8 hlK
    have HK2 := Lib.hid ((hb2.block _ (by have := blk_lt HK1.out; exact this)).trans HK1.out)
    have HB2 := Lib.hid ((HB1.out).trans (hb2.mono (by have := HB1.out.size; omega)))
    clear hb2
    cases b4
    ·
     have hcK0 := blk_cell HK2.out 0
     have hcK1 := blk_cell HK2.out 1
     have hcK2 := blk_cell HK2.out 2
     have hcK3 := blk_cell HK2.out 3
     have hcK4 := blk_cell HK2.out 4
     have hcK5 := blk_cell HK2.out 5
     have hcK6 := blk_cell HK2.out 6
     have hcK7 := blk_cell HK2.out 7
     have hcK8 := blk_cell HK2.out 8
     have hlK := blk_lt HK2.out
     simp only [List.getElem?_toArray, List.getElem?_cons_zero, List.getElem?_cons_succ] at hcK0 hcK1 hcK2 hcK3 hcK4 hcK5 hcK6 hcK7 hcK8
     go_wp2
     go_ret
     exact ⟨by first | rfl | (simp; done) | (simp [*]; done), HB2.out⟩
    ·
     have hcK0 := blk_cell HK2.out 0
     have hcK1 := blk_cell HK2.out 1
     have hcK2 := blk_cell HK2.out 2
     have hcK3 := blk_cell HK2.out 3
     have hcK4 := blk_cell HK2.out 4
     have hcK5 := blk_cell HK2.out 5
     have hcK6 := blk_cell HK2.out 6
     have hcK7 := blk_cell HK2.out 7
     have hcK8 := blk_cell HK2.out 8
     have hlK := blk_lt HK2.out
     simp only [List.getElem?_toArray, List.getElem?_cons_zero, List.getElem?_cons_succ] at hcK0 hcK1 hcK2 hcK3 hcK4 hcK5 hcK6 hcK7 hcK8
     go_wp2_with fail
     refine (M2.out _).mono ?_
     rintro e w3 ⟨rfl, hb3⟩
     clear hcK0 hcK1 hcK2 hcK3 hcK4 hcK5 hcK6 hcK7 hcK8 hlK
     have HK3 := Lib.hid ((hb3.block _ (by have := blk_lt HK2.out; exact this)).trans HK2.out)
     have HB3 := Lib.hid ((HB2.out).trans (hb3.mono (by have := HB2.out.size; omega)))
     clear hb3
     go_wp2
     go_ret
     exact ⟨by first | rfl | (simp; done) | (simp [*]; done), HB3.out⟩
   ·
    have hcK0 := blk_cell HK1.out 0
    have hcK1 := blk_cell HK1.out 1
    have hcK2 := blk_cell HK1.out 2
    have hcK3 := blk_cell HK1.out 3
    have hcK4 := blk_cell HK1.out 4
    have hcK5 := blk_cell HK1.out 5
    have hcK6 := blk_cell HK1.out 6
    have hcK7 := blk_cell HK1.out 7
    have hcK8 := blk_cell HK1.out 8
    have hlK := blk_lt HK1.out
    simp only [List.getElem?_toArray, List.getElem?_cons_zero, List.getElem?_cons_succ] at hcK0 hcK1 hcK2 hcK3 hcK4 hcK5 hcK6 hcK7 hcK8
    go_wp2_with fail
    refine (M3.out _).mono ?_
    rintro e w2 ⟨rfl, hb2⟩
    clear hcK0 hcK1 hcK2 hcK3 hcK4 hcK5 hcK6 hcK7 hcK8 hlK
    have HK2 := Lib.hid ((hb2.block _ (by have := blk_lt HK1.out; exact this)).trans HK1.out)
    have HB2 := Lib.hid ((HB1.out).trans (hb2.mono (by have := HB1.out.size; omega)))
    clear hb2
    cases b3
    ·
     have hcK0 := blk_cell HK2.out 0
     have hcK1 := blk_cell HK2.out 1
     have hcK2 := blk_cell HK2.out 2
     have hcK3 := blk_cell HK2.out 3
     have hcK4 := blk_cell HK2.out 4
     have hcK5 := blk_cell HK2.out 5
     have hcK6 := blk_cell HK2.out 6
     have hcK7 := blk_cell HK2.out 7
     have hcK8 := blk_cell HK2.out 8
     have hlK := blk_lt HK2.out
     simp only [List.getElem?_toArray, List.getElem?_cons_zero, List.getElem?_cons_succ] at hcK0 hcK1 hcK2 hcK3 hcK4 hcK5 hcK6 hcK7 hcK8
     go_wp2_with fail
     refine (M4.out _).mono ?_
     rintro e w3 ⟨rfl, hb3⟩
     clear hcK0 hcK1 hcK2 hcK3 hcK4 hcK5 hcK6 hcK7 hcK8 hlK
     have HK3 := Lib.hid ((hb3.block _ (by have := blk_lt HK2.out; exact this)).trans HK2.out)
     have HB3 := Lib.hid ((HB2.out).trans (hb3.mono (by have := HB2.out.size; omega)))
     clear hb3
     cases b4
     ·
      have hcK0 := blk_cell HK3.out 0
      have hcK1 := blk_cell HK3.out 1
      have hcK2 := blk_cell HK3.out 2
      have hcK3 := blk_cell HK3.out 3
      have hcK4 := blk_cell HK3.out 4
      have hcK5 := blk_cell HK3.out 5
      have hcK6 := blk_cell HK3.out 6
      have hcK7 := blk_cell HK3.out 7
      have hcK8 := blk_cell HK3.out 8
      have hlK := blk_lt HK3.out
      simp only [List.getElem?_toArray, List.getElem?_cons_zero, List.getElem?_cons_succ] at hcK0 hcK1 hcK2 hcK3 hcK4 hcK5 hcK6 hcK7 hcK8
      go_wp2
      go_ret
      exact ⟨by first | rfl | (simp; done) | (simp [*]; done), HB3.out⟩
     ·
      have hcK0 := blk_cell HK3.out 0
      have hcK1 := blk_cell HK3.out 1
      have hcK2 := blk_cell HK3.out 2
      have hcK3 := blk_cell HK3.out 3
      have hcK4 := blk_cell HK3.out 4
      have hcK5 := blk_cell HK3.out 5
      have hcK6 := blk_cell HK3.out 6
      have hcK7 := blk_cell HK3.out 7
      have hcK8 := blk_cell HK3.out 8
      have hlK := blk_lt HK3.out
      simp only [List.getElem?_toArray, List.getElem?_cons_zero, List.getElem?_cons_succ] at hcK0 hcK1 hcK2 hcK3 hcK4 hcK5 hcK6 hcK7 hcK8
      go_wp2_with fail
      refine (M2.out _).mono ?_
      rintro e w4 ⟨rfl, hb4⟩
      clear hcK0 hcK1 hcK2 hcK3 hcK4 hcK5 hcK6 hcK7 hcK8 hlK
      have HK4 := Lib.hid ((hb4.block _ (by have := blk_lt HK3.out; exact this)).trans HK3.out)
      have HB4 := Lib.hid ((HB3.out).trans (hb4.mono (by have := HB3.out.size; omega)))
      clear hb4
      go_wp2
      go_ret
      exact ⟨by first | rfl | (simp; done) | (simp [*]; done), HB4.out⟩
    ·
     have hcK0 := blk_cell HK2.out 0
     have hcK1 := blk_cell HK2.out 1
     have hcK2 := blk_cell HK2.out 2
     have hcK3 := blk_cell HK2.out 3
     have hcK4 := blk_cell HK2.out 4
     have hcK5 := blk_cell HK2.out 5
     have hcK6 := blk_cell HK2.out 6
     have hcK7 := blk_cell HK2.out 7
     have hcK8 := blk_cell HK2.out 8
     have hlK := blk_lt HK2.out
     simp only [List.getElem?_toArray, List.getElem?_cons_zero, List.getElem?_cons_succ] at hcK0 hcK1 hcK2 hcK3 hcK4 hcK5 hcK6 hcK7 hcK8
     go_wp2_with fail
     refine (M4.out _).mono ?_
     rintro e w3 ⟨rfl, hb3⟩
     clear hcK0 hcK1 hcK2 hcK3 hcK4 hcK5 hcK6 hcK7 hcK8 hlK
     have HK3 := Lib.hid ((hb3.block _ (by have := blk_lt HK2.out; exact this)).trans HK2.out)
     have HB3 := Lib.hid ((HB2.out).trans (hb3.mono (by have := HB2.out.size; omega)))
     clear hb3
     cases b4
     ·
      have hcK0 := blk_cell HK3.out 0
      have hcK1 := blk_cell HK3.out 1
      have hcK2 := blk_cell HK3.out 2
      have hcK3 := blk_cell HK3.out 3
      have hcK4 := blk_cell HK3.out 4
      have hcK5 := blk_cell HK3.out 5
      have hcK6 := blk_cell HK3.out 6
      have hcK7 := blk_cell HK3.out 7
      have hcK8 := blk_cell HK3.out 8
      have hlK := blk_lt HK3.out
      simp only [List.getElem?_toArray, List.getElem?_cons_zero, List.getElem?_cons_succ] at hcK0 hcK1 hcK2 hcK3 hcK4 hcK5 hcK6 hcK7 hcK8
      go_wp2
      go_ret
      exact ⟨by first | rfl | (simp; done) | (simp [*]; done), HB3.out⟩
     ·
      have hcK0 := blk_cell HK3.out 0
      have hcK1 := blk_cell HK3.out 1
      have hcK2 := blk_cell HK3.out 2
      have hcK3 := blk_cell HK3.out 3
      have hcK4 := blk_cell HK3.out 4
      have hcK5 := blk_cell HK3.out 5
      have hcK6 := blk_cell HK3.out 6
      have hcK7 := blk_cell HK3.out 7
      have hcK8 := blk_cell HK3.out 8
      have hlK := blk_lt HK3.out
      simp only [List.getElem?_toArray, List.getElem?_cons_zero, List.getElem?_cons_succ] at hcK0 hcK1 hcK2 hcK3 hcK4 hcK5 hcK6 hcK7 hcK8
      go_wp2_with fail
      refine (M2.out _).mono ?_
      rintro e w4 ⟨rfl, hb4⟩
      clear hcK0 hcK1 hcK2 hcK3 hcK4 hcK5 hcK6 hcK7 hcK8 hlK
      have HK4 := Lib.hid ((hb4.block _ (by have := blk_lt HK3.out; exact this)).trans HK3.out)
      have HB4 := Lib.hid ((HB3.out).trans (hb4.mono (by have := HB3.out.size; omega)))
      clear hb4
      go_wp2
      go_ret
      exact ⟨by first | rfl | (simp; done) | (simp [*]; done), HB4.out⟩
theorem electMay_any (rep : ByteArray) (hs : rep.size ≤ 140737488351232) (ep tm : Int) (gone there : Bool) (mod live eps tmod : Int) (w : World) :
  Calls Try.prog 28 #[.agg #[.string rep, .int .i64 ep, .int .i64 tm, .bool gone, .bool there, .int .i64 mod, .int .i64 live, .int .i64 eps, .int .i64 tmod]] w fun e w' => e = .returned (.bool (mayKn rep ep tm gone there mod live eps tmod)) ∧ Below w.heap.size w w' := by
 have eqz : ∀ d W, (Op.equalIn (d + 2) 23 (.agg #[.string rep, .int .i64 ep, .int .i64 tm, .bool gone]) (.agg #[.string ⟨#[]⟩, .int .i64 0, .int .i64 0, .bool false])).run Try.prog W = .ok (zeroR rep ep tm gone) W := fun d W => by
  rw [EQ.eqA23, show (⟨#[]⟩ : ByteArray).toList = [] from Lib.toList_data _]
  unfold zeroR
  cases gone <;> rfl
 by_cases ht : tmod = 0
 ·
  subst ht
  exact electMay_zero _ _ _ _ _ rep ep tm gone there mod live eps eqz (Lib.hid fun W => recMay_any rep hs ep tm gone W) (Lib.hid fun W => tenMay_any live eps W) (Lib.hid fun W => electMod_any mod W) (Lib.hid fun W => electMod_any 0 W) w
 ·
  exact electMay_some _ _ _ _ _ rep ep tm gone there mod live eps tmod (beq_eq_false_iff_ne.2 ht) ht eqz (Lib.hid fun W => recMay_any rep hs ep tm gone W) (Lib.hid fun W => tenMay_any live eps W) (Lib.hid fun W => electMod_any mod W) (Lib.hid fun W => electMod_any tmod W) w
end Go.Proofs.Ytobanhbjkomieaa.RP
