import Derived.Test.YtobanhbjkomieaaRJ
import Derived.Test.YtobanhbjkomieaaEQ
import Derived.Deep.DrawnRows
namespace Go.Proofs.Ytobanhbjkomieaa.RP
open Go.RowKit Go.Proofs.Ytobanhbjkomieaa.PAll Go.Proofs.Ytobanhbjkomieaa.KP Go.Proofs.Ytobanhbjkomieaa.BP Go.Proofs.YtobanhbjkomieaaW.PrintWords Go.Proofs.YtobanhbjkomieaaW.PrintLast Go.Proofs.YtobanhbjkomieaaW.PrintMore
set_option linter.unusedSimpArgs false
set_option linter.unusedVariables false
attribute [local go_sem high] EQ.eqA23 EQ.eqA25 EQ.eqA113
/-! ### the laws' helpers -/
theorem mk_toList (s : ByteArray) : (⟨s.toList.toArray⟩ : ByteArray) = s := by rw [Lib.toList_data]
theorem rc_mk (rep : ByteArray) : (⟨rep.data.toList.toArray⟩ : ByteArray) = rep := rfl
def rcOf (rep : ByteArray) (ep tm : Int) (gone : Bool) : Rc := ⟨rep.data.toList, ep, tm, gone⟩
theorem rcOf_may (rep : ByteArray) (ep tm : Int) (gone : Bool) : (rcOf rep ep tm gone).may = mayRec rep ep tm := rfl
theorem strOf_bytes (rep : ByteArray) (ep tm : Int) (gone : Bool) : (strOfNums (recBytes rep ep tm gone)).data.toList = (rcOf rep ep tm gone).bytes := by
  rw [nb_strOf]
  exact bytes_rec (rcOf rep ep tm gone)
theorem strOf_tbytes (live ep : Int) : (strOfNums (tenBytes live ep)).data.toList = (⟨live, ep⟩ : Tn).bytes := by
  rw [nb_strOf]
  exact bytes_ten ⟨live, ep⟩
/-- Encode's and Decode's answers, taken apart. -/
theorem encYes (rep : ByteArray) (hs : rep.size ≤ 140737488351232) (ep tm : Int) (gone : Bool) (h : mayRec rep ep tm = true) (w : World) :
    Calls Try.prog 81 #[.agg #[.string rep, .int .i64 ep, .int .i64 tm, .bool gone]] w fun e w' => e = .returned (.tuple #[.string (strOfNums (recBytes rep ep tm gone)), .int .i64 0]) ∧ Below w.heap.size w w' := by
  have := encode_any rep hs ep tm gone w
  unfold encRes at this
  rwa [if_pos h] at this
theorem decAs (s : ByteArray) (hs : s.size ≤ 140737488351232) (rep : ByteArray) (ep tm : Int) (gone : Bool) (e : Int) (h : decRc s.data.toList = (rcOf rep ep tm gone, e)) (w : World) :
    Calls Try.prog 75 #[.string s] w fun r w' => r = .returned (.tuple #[.agg #[.string rep, .int .i64 ep, .int .i64 tm, .bool gone], .int .i64 e]) ∧ Below w.heap.size w w' := by
  have := decode_any s hs w
  unfold decV rcV at this
  rw [h] at this
  exact this
theorem decTAs (s : ByteArray) (hs : s.size ≤ 140737488351232) (live ep : Int) (e : Int) (h : decTn s.data.toList = (⟨live, ep⟩, e)) (w : World) :
    Calls Try.prog 77 #[.string s] w fun r w' => r = .returned (.tuple #[.agg #[.int .i64 live, .int .i64 ep], .int .i64 e]) ∧ Below w.heap.size w w' := by
  have := decodeTen_any s hs w
  unfold decTV tnV at this
  rw [h] at this
  exact this
set_option maxHeartbeats 1000000 in
set_option maxRecDepth 100000 in
theorem is_yes (rep : ByteArray) (hr : rep.size ≤ 140737488351232) (ep tm : Int) (gone : Bool) (s : ByteArray) (hs : s.size ≤ 140737488351232) (hm : mayRec rep ep tm = true) (hb : strOfNums (recBytes rep ep tm gone) = s) (hd : decRc s.data.toList = (rcOf rep ep tm gone, 0)) (w : World) :
    Calls Try.prog 89 #[.agg #[.string rep, .int .i64 ep, .int .i64 tm, .bool gone], .string s] w fun e w' => e = .returned (.bool true) ∧ Below w.heap.size w w' := by
  have h1 := fun W => encYes rep hr ep tm gone hm W
  rw [hb] at h1
  have H1 := Lib.hid h1
  have H2 := Lib.hid (fun W => decAs s hs rep ep tm gone 0 hd W)
  clear h1 hb hd hm
  go_enter Try.func89, Try.ntmps89
  go_wp2_with fail
  refine (H1.out _).mono ?_
  rintro e w1 ⟨rfl, hb1⟩
  have HB1 := Lib.hid (below_next0 ((Below.refl _ _).alloc (Nat.le_refl _) _) hb1)
  have HP1 := Lib.hid ((hb1.block w.heap.size (by simp)).trans (heap_alloc_new w _))
  clear hb1
  go_wp2_with fail
  refine (H2.out _).mono ?_
  rintro e w2 ⟨rfl, hb2⟩
  have HP2 := Lib.hid ((hb2.block w.heap.size (blk_lt HP1.out)).trans HP1.out)
  have hlt := blk_lt HP2.out
  have hcp0 := blk_cell HP2.out 0
  have hcp1 := blk_cell HP2.out 1
  have hcp2 := blk_cell HP2.out 2
  have hcp3 := blk_cell HP2.out 3
  simp at hcp0 hcp1 hcp2 hcp3
  go_wp2
  go_ret
  exact ⟨by first | rfl | (simp; done), (below_next0 HB1.out hb2).alloc (Nat.le_trans HB1.out.size hb2.size) _⟩
set_option maxHeartbeats 1000000 in
set_option maxRecDepth 100000 in
theorem refused_yes (s : ByteArray) (hs : s.size ≤ 140737488351232) (e f : Int) (h1 : e ≠ 0) (h2 : f ≠ 0) (hd : decRc s.data.toList = (noRc, e)) (ht : decTn s.data.toList = (noTn, f)) (w : World) :
    Calls Try.prog 93 #[.string s, .int .i64 e, .int .i64 f] w fun r w' => r = .returned (.bool true) ∧ Below w.heap.size w w' := by
  have H1 := Lib.hid (fun W => decAs s hs ⟨#[]⟩ 0 0 false e hd W)
  have H2 := Lib.hid (fun W => decTAs s hs 0 0 f ht W)
  have e1 : (e == 0) = false := beq_eq_false_iff_ne.2 h1
  have e2 : (f == 0) = false := beq_eq_false_iff_ne.2 h2
  clear hd ht
  go_enter Try.func93, Try.ntmps93
  go_wp2_with fail
  refine (H1.out _).mono ?_
  rintro r w1 ⟨rfl, hb1⟩
  go_wp2_with fail
  refine (H2.out _).mono ?_
  rintro r w2 ⟨rfl, hb2⟩
  have HX2 := Lib.hid ((hb2.block w1.heap.size (by simp)).trans (heap_alloc_new w1 _))
  have hlt := blk_lt HX2.out
  have hcx0 := blk_cell HX2.out 0
  have hcx1 := blk_cell HX2.out 1
  have hcx2 := blk_cell HX2.out 2
  have hcx3 := blk_cell HX2.out 3
  simp at hcx0 hcx1 hcx2 hcx3
  go_wp2
  go_ret
  have k1 := (below_alloc (below_next0 (Below.refl w.heap.size w) hb1) (.cells #[.string ⟨#[]⟩, .int .i64 0, .int .i64 0, .bool false] 23)).trans (hb2.mono (by have := hb1.size; simp; omega))
  exact ⟨by first | rfl | (simp; done), k1.alloc k1.size _⟩
theorem encTYes (live ep : Int) (h : mayTen live ep = true) (s : ByteArray) (hs : strOfNums (tenBytes live ep) = s) (w : World) :
    Calls Try.prog 83 #[.agg #[.int .i64 live, .int .i64 ep]] w fun e w' => e = .returned (.tuple #[.string s, .int .i64 0]) ∧ Below w.heap.size w w' := by
  have := encodeTen_any live ep w
  unfold encTenRes at this
  rwa [if_pos h, hs] at this
theorem readAs (key val : ByteArray) (hk : key.size ≤ 140737488351232) (hv : val.size ≤ 140737488351232) (ten cl rep : ByteArray) (ep tm : Int) (gone : Bool) (live eps e : Int)
    (h : readIt key.data.toList val.data.toList = (⟨ten.data.toList, cl.data.toList, rcOf rep ep tm gone, ⟨live, eps⟩⟩, e)) (w : World) :
    Calls Try.prog 79 #[.string key, .string val] w fun r w' => r = .returned (.tuple #[.agg #[.string ten, .string cl, .string rep, .int .i64 ep, .int .i64 tm, .bool gone, .int .i64 live, .int .i64 eps], .int .i64 e]) ∧ Below w.heap.size w w' := by
  have := readRec_any key val hk hv w
  unfold itR itV at this
  rw [h] at this
  exact this
theorem tenBytes_27 : strOfNums (tenBytes 2 7) = ⟨#[2, 7]⟩ := by
  unfold tenBytes
  rw [vint_small (by decide), vint_small (by decide)]
  rfl
theorem recBytes_of (gone : Bool) : strOfNums (recBytes ⟨#[114]⟩ 300 5 gone) = if gone then ⟨#[1, 114, 172, 2, 5, 1]⟩ else ⟨#[1, 114, 172, 2, 5, 0]⟩ := by
  unfold recBytes txt
  rw [show (⟨#[114]⟩ : ByteArray).size = 1 from rfl, show (300 : Int).toNat = 300 from rfl, show (5 : Int).toNat = 5 from rfl, vint_small (n := 1) (by decide), vint_small (n := 5) (by decide), vint_big (n := 300) (by decide), show 300 / 128 = 2 from rfl, vint_small (n := 2) (by decide)]
  cases gone <;> rfl
theorem is_of (gone : Bool) (w : World) : Calls Try.prog 89 #[.agg #[.string ⟨#[114]⟩, .int .i64 300, .int .i64 5, .bool gone], .string (if gone then ⟨#[1, 114, 172, 2, 5, 1]⟩ else ⟨#[1, 114, 172, 2, 5, 0]⟩)] w fun e w' => e = .returned (.bool true) ∧ Below w.heap.size w w' :=
  is_yes ⟨#[114]⟩ (by decide) 300 5 gone _ (by cases gone <;> decide) (by decide +kernel) (recBytes_of gone) (by cases gone <;> decide +kernel) w
theorem is_of0 (w : World) : Calls Try.prog 89 #[.agg #[.string ⟨#[114]⟩, .int .i64 300, .int .i64 5, .bool false], .string ⟨#[1, 114, 172, 2, 5, 0]⟩] w fun e w' => e = .returned (.bool true) ∧ Below w.heap.size w w' := is_of false w
theorem is_of1 (w : World) : Calls Try.prog 89 #[.agg #[.string ⟨#[114]⟩, .int .i64 300, .int .i64 5, .bool true], .string ⟨#[1, 114, 172, 2, 5, 1]⟩] w fun e w' => e = .returned (.bool true) ∧ Below w.heap.size w w' := is_of true w
theorem of_any (gone : Bool) (w : World) : Calls Try.prog 141 #[.bool gone] w fun e w' => e = .returned (.agg #[.string ⟨#[114]⟩, .int .i64 300, .int .i64 5, .bool gone]) ∧ Below w.heap.size w w' :=
  batonlaw18_of.calls gone _ _ _ _ w rfl
attribute [local go_sem ↓] Go.wp_at_zero Go.wp_at_succ
set_option maxHeartbeats 1000000 in
set_option maxRecDepth 100000 in
theorem awake_any (w : World) : Calls Try.prog 74 #[] w fun e w' => e = .returned (.bool true) ∧ Below w.heap.size w w' := by
  go_enter Try.func74, Try.ntmps74
  go_wp2_with fail
  refine (encTYes 2 7 (by decide) ⟨#[2, 7]⟩ tenBytes_27 _).mono ?_
  rintro e w1 ⟨rfl, hb1⟩
  go_wp2_with fail
  refine (decTAs ⟨#[3, 2]⟩ (by decide) 0 0 4 (by decide +kernel) _).mono ?_
  rintro e w2 ⟨rfl, hb2⟩
  have HB2 := Lib.hid (below_next0 hb1 hb2)
  clear hb1 hb2
  go_wp2_with fail
  refine (readAs ⟨#[99, 47, 116, 47, 120]⟩ ⟨#[1, 114, 172, 2, 5, 0]⟩ (by decide) (by decide) ⟨#[116]⟩ ⟨#[120]⟩ ⟨#[114]⟩ 300 5 false 0 0 0 (by decide +kernel) _).mono ?_
  rintro e w3 ⟨rfl, hb3⟩
  have HB3 := Lib.hid ((HB2.out.alloc HB2.out.size _).trans (hb3.mono (by have := HB2.out.size; simp; omega)))
  clear hb3 HB2
  go_wp2_with fail
  refine (readAs ⟨#[120]⟩ ⟨#[]⟩ (by decide) (by decide) ⟨#[]⟩ ⟨#[]⟩ ⟨#[]⟩ 0 0 false 0 0 1 (by decide +kernel) _).mono ?_
  rintro e w4 ⟨rfl, hb4⟩
  have HX4 := Lib.hid ((hb4.block w3.heap.size (by simp)).trans (heap_alloc_new w3 _))
  have HB4 := Lib.hid ((HB3.out.alloc HB3.out.size _).trans (hb4.mono (by have := HB3.out.size; simp; omega)))
  clear hb4 HB3
  have hbw := HB4.out
  have hx4 := HX4.out
  generalize w3.heap.size = X at *
  clear hx4
  have hc0 : w4.cell? ⟨X, 0, none⟩ = some (.string ⟨#[116]⟩) := blk_cell HX4.out 0
  have hc1 : w4.cell? ⟨X, 1, none⟩ = some (.string ⟨#[120]⟩) := blk_cell HX4.out 1
  have hc2 : w4.cell? ⟨X, 2, none⟩ = some (.string ⟨#[114]⟩) := blk_cell HX4.out 2
  have hc3 : w4.cell? ⟨X, 3, none⟩ = some (.int .i64 300) := blk_cell HX4.out 3
  have hc4 : w4.cell? ⟨X, 4, none⟩ = some (.int .i64 5) := blk_cell HX4.out 4
  have hc5 : w4.cell? ⟨X, 5, none⟩ = some (.bool false) := blk_cell HX4.out 5
  have hc6 : w4.cell? ⟨X, 6, none⟩ = some (.int .i64 0) := blk_cell HX4.out 6
  have hc7 : w4.cell? ⟨X, 7, none⟩ = some (.int .i64 0) := blk_cell HX4.out 7
  go_wp2_with fail
  have hbw := hbw.alloc hbw.size (.cells #[.string ⟨#[]⟩, .string ⟨#[]⟩, .string ⟨#[]⟩, .int .i64 0, .int .i64 0, .bool false, .int .i64 0, .int .i64 0] 113)
  go_region_held3 (fun W => W.cell? ⟨X, 0, none⟩ = some (.string ⟨#[116]⟩) ∧ W.cell? ⟨X, 1, none⟩ = some (.string ⟨#[120]⟩) ∧ W.cell? ⟨X, 2, none⟩ = some (.string ⟨#[114]⟩) ∧ W.cell? ⟨X, 3, none⟩ = some (.int .i64 300) ∧ W.cell? ⟨X, 4, none⟩ = some (.int .i64 5) ∧ W.cell? ⟨X, 5, none⟩ = some (.bool false) ∧ W.cell? ⟨X, 6, none⟩ = some (.int .i64 0) ∧ W.cell? ⟨X, 7, none⟩ = some (.int .i64 0)) (go_keep) (first | (go_at_call 141; (with_reducible refine (of_any _ _).mono ?_); rintro e x5 ⟨rfl, hb5⟩; have d0 := keep_cell (a := ⟨X, 0, none⟩) (v := .string ⟨#[116]⟩) hb5 (by simp [*]); have d1 := keep_cell (a := ⟨X, 1, none⟩) (v := .string ⟨#[120]⟩) hb5 (by simp [*]); have d2 := keep_cell (a := ⟨X, 2, none⟩) (v := .string ⟨#[114]⟩) hb5 (by simp [*]); have d3 := keep_cell (a := ⟨X, 3, none⟩) (v := .int .i64 300) hb5 (by simp [*]); have d4 := keep_cell (a := ⟨X, 4, none⟩) (v := .int .i64 5) hb5 (by simp [*]); have d5 := keep_cell (a := ⟨X, 5, none⟩) (v := .bool false) hb5 (by simp [*]); have d6 := keep_cell (a := ⟨X, 6, none⟩) (v := .int .i64 0) hb5 (by simp [*]); have d7 := keep_cell (a := ⟨X, 7, none⟩) (v := .int .i64 0) hb5 (by simp [*]); (first | have hbw := below_next0 hbw hb5 | have hbw := below_next hbw hb5)) | (go_at_call 89; (with_reducible refine (is_of0 _).mono ?_); rintro e x5 ⟨rfl, hb5⟩; have d0 := keep_cell (a := ⟨X, 0, none⟩) (v := .string ⟨#[116]⟩) hb5 (by simp [*]); have d1 := keep_cell (a := ⟨X, 1, none⟩) (v := .string ⟨#[120]⟩) hb5 (by simp [*]); have d2 := keep_cell (a := ⟨X, 2, none⟩) (v := .string ⟨#[114]⟩) hb5 (by simp [*]); have d3 := keep_cell (a := ⟨X, 3, none⟩) (v := .int .i64 300) hb5 (by simp [*]); have d4 := keep_cell (a := ⟨X, 4, none⟩) (v := .int .i64 5) hb5 (by simp [*]); have d5 := keep_cell (a := ⟨X, 5, none⟩) (v := .bool false) hb5 (by simp [*]); have d6 := keep_cell (a := ⟨X, 6, none⟩) (v := .int .i64 0) hb5 (by simp [*]); have d7 := keep_cell (a := ⟨X, 7, none⟩) (v := .int .i64 0) hb5 (by simp [*]); (first | have hbw := below_next0 hbw hb5 | have hbw := below_next hbw hb5)) | (go_at_call 89; (with_reducible refine (is_of1 _).mono ?_); rintro e x5 ⟨rfl, hb5⟩; have d0 := keep_cell (a := ⟨X, 0, none⟩) (v := .string ⟨#[116]⟩) hb5 (by simp [*]); have d1 := keep_cell (a := ⟨X, 1, none⟩) (v := .string ⟨#[120]⟩) hb5 (by simp [*]); have d2 := keep_cell (a := ⟨X, 2, none⟩) (v := .string ⟨#[114]⟩) hb5 (by simp [*]); have d3 := keep_cell (a := ⟨X, 3, none⟩) (v := .int .i64 300) hb5 (by simp [*]); have d4 := keep_cell (a := ⟨X, 4, none⟩) (v := .int .i64 5) hb5 (by simp [*]); have d5 := keep_cell (a := ⟨X, 5, none⟩) (v := .bool false) hb5 (by simp [*]); have d6 := keep_cell (a := ⟨X, 6, none⟩) (v := .int .i64 0) hb5 (by simp [*]); have d7 := keep_cell (a := ⟨X, 7, none⟩) (v := .int .i64 0) hb5 (by simp [*]); (first | have hbw := below_next0 hbw hb5 | have hbw := below_next hbw hb5)))
  go_wp2
  go_ret
  exact ⟨rfl, by first | exact hbw | exact pw_below_drewN hbw _⟩
end Go.Proofs.Ytobanhbjkomieaa.RP
