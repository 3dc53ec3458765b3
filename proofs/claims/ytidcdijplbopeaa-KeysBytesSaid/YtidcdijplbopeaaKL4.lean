import Derived.Test.YtidcdijplbopeaaKQ
namespace Go.Proofs.Ytidcdijplbopeaa.KP
open Go.RowKit Go.Proofs.Ytidcdijplbopeaa.PAll Go.Proofs.YtidcdijplbopeaaW.PrintWords Go.Proofs.YtidcdijplbopeaaW.PrintLast
theorem extract_one (s : ByteArray) (k : Nat) (h : k < s.data.toList.length) : (s.extract k (k + 1)).data.toList = [s.data.toList[k]] := by
  rw [Lib.extract_data]
  have : k + 1 - k = 1 := by omega
  rw [this, List.drop_eq_getElem_cons h]
  rfl
set_option maxHeartbeats 16000000 in
set_option maxRecDepth 100000 in
theorem bytes_no (a0 a1 : ByteArray) (w : World) (g0 : ¬ 3000 < a0.size) (g1 : ¬ 3000 < a1.size) (HP : Hid (isPrefix a0.data.toList = false)) (HK : Hid (isKey a0.data.toList = false)) (HN : Hid (isName a0.data.toList = false)) (e0 : (a0.toList == []) = false) :
    Calls Try.prog 5 #[.string a0, .string a1] w fun e w' => e = .returned (.bool true) ∧ Below w.heap.size w w' := by
  have v0 : a0.size ≤ 140737488351232 := by omega
  have v1 : a1.size ≤ 140737488351232 := by omega
  have V2 : Hid ((a0 ++ a1).size ≤ 140737488351232) := Lib.hid (by rw [ByteArray.size_append]; omega)
  go_enter Try.func5, Try.ntmps5
  go_wp2_with fail
  refine (awake_any _).mono ?_
  rintro e x1 ⟨rfl, hx1⟩
  go_wp2_with fail
  refine (key_lit _ _ _ v0 HK.out).mono ?_
  rintro e w' ⟨rfl, ⟨n91, rfl⟩⟩
  go_wp2_with fail
  refine (name_lit _ _ _ v0 HN.out).mono ?_
  rintro e w' ⟨rfl, ⟨n92, rfl⟩⟩
  go_wp2_with fail
  refine (prefix_lit _ _ _ v0 HP.out).mono ?_
  rintro e w' ⟨rfl, ⟨n93, rfl⟩⟩
  go_wp2_with fail
  refine (key_lit _ _ _ v0 HK.out).mono ?_
  rintro e w' ⟨rfl, ⟨n94, rfl⟩⟩
  go_wp2_with fail
  go_loopw [5, 6] (fun g i wr => ∃ (k : Nat) (gb : Bool) (m : Nat), k ≤ a0.size ∧ i = .int .i64 k ∧ g = .bool gb ∧ Hid (gb = (decide (a0.data.toList.length ≤ 64) && allK 1 (a0.data.toList.take k))) ∧ wr = x1.drewN m) (fun _ i _ => a0.size - (intOf i).toNat)
  case atStart =>
    refine ⟨0, decide (a0.data.toList.length ≤ 64), _, Nat.zero_le _, rfl, ?_, Lib.hid (by simp [allK]), rfl⟩
    rw [← Lib.size_eq]
    first | rfl | (congr 1; rw [Bool.eq_iff_iff]; simp; try omega)
  case round =>
    obtain ⟨k, gb, m, hk, rfl, rfl, hg, rfl⟩ := hrel
    by_cases hlt : k < a0.size
    · have hl : k < a0.data.toList.length := by rw [← Lib.size_eq]; exact hlt
      have hstep := allK_take_succ 1 a0.data.toList k hl
      cases gb
      · have hg' : Hid (false = (decide (a0.data.toList.length ≤ 64) && allK 1 (a0.data.toList.take (k + 1)))) := by
          refine Lib.hid ?_
          rw [hstep, ← Bool.and_assoc, ← hg.out, Bool.false_and]
        clear hg hstep
        go_wp2
        go_roundw
        case rel => exact ⟨k + 1, false, m, by omega, by go_num, rfl, hg', rfl⟩
        case measure => simp [intOf]; omega
      · have hv : Hid (isKey (a0.extract k (k + 1)).data.toList = decide (1 ≤ kindOf (a0.data.toList[k].toNat : Int))) := by
          refine Lib.hid ?_
          rw [extract_one _ _ hl, isKey_one]
        have hg' : Hid (decide (1 ≤ kindOf (a0.data.toList[k].toNat : Int)) = (decide (a0.data.toList.length ≤ 64) && allK 1 (a0.data.toList.take (k + 1)))) := by
          refine Lib.hid ?_
          rw [hstep, ← Bool.and_assoc, ← hg.out, Bool.true_and]
        have hsz : Hid ((a0.extract k (k + 1)).size ≤ 140737488351232) := Lib.hid (by rw [ByteArray.size_extract]; omega)
        clear hg hstep
        generalize decide (1 ≤ kindOf (a0.data.toList[k].toNat : Int)) = gv at *
        go_wp2_with fail
        refine (key_lit _ _ _ hsz.out hv.out).mono ?_
        rintro e w' ⟨rfl, ⟨n9, rfl⟩⟩
        go_wp2
        go_roundw
        case rel => exact ⟨k + 1, gv, _, by omega, by go_num, rfl, hg', rfl⟩
        case measure => simp [intOf]; omega
    · have hgp : gb = false := by
        have h1 := hg.out
        have h2 : a0.data.toList.take k = a0.data.toList := List.take_of_length_le (by rw [← Lib.size_eq]; omega)
        rw [h2, Bool.and_comm] at h1
        rw [h1]
        exact HP.out
      subst hgp
      clear hg
      go_wp2_with fail
      refine (prefix_lit _ _ _ v0 HP.out).mono ?_
      rintro e w' ⟨rfl, ⟨n89, rfl⟩⟩
      go_wp2_with fail
      refine (prefix_lit _ _ _ v0 HP.out).mono ?_
      rintro e w' ⟨rfl, ⟨n90, rfl⟩⟩
      go_wp2
      go_ret
      exact ⟨by simp, pw_below_drewN hx1 _⟩
set_option maxHeartbeats 16000000 in
set_option maxRecDepth 100000 in
theorem bytes_nil0 (a0 a1 : ByteArray) (w : World) (g0 : ¬ 3000 < a0.size) (g1 : ¬ 3000 < a1.size) (HP : Hid (isPrefix a0.data.toList = true)) (HK : Hid (isKey a0.data.toList = false)) (HN : Hid (isName a0.data.toList = false)) (e0 : (a0.toList == []) = true) (HB : Hid (isPrefix a1.data.toList = false)) :
    Calls Try.prog 5 #[.string a0, .string a1] w fun e w' => e = .returned (.bool true) ∧ Below w.heap.size w w' := by
  have v0 : a0.size ≤ 140737488351232 := by omega
  have v1 : a1.size ≤ 140737488351232 := by omega
  have V2 : Hid ((a0 ++ a1).size ≤ 140737488351232) := Lib.hid (by rw [ByteArray.size_append]; omega)
  go_enter Try.func5, Try.ntmps5
  go_wp2_with fail
  refine (awake_any _).mono ?_
  rintro e x1 ⟨rfl, hx1⟩
  go_wp2_with fail
  refine (key_lit _ _ _ v0 HK.out).mono ?_
  rintro e w' ⟨rfl, ⟨n98, rfl⟩⟩
  go_wp2_with fail
  refine (name_lit _ _ _ v0 HN.out).mono ?_
  rintro e w' ⟨rfl, ⟨n99, rfl⟩⟩
  go_wp2_with fail
  refine (prefix_lit _ _ _ v0 HP.out).mono ?_
  rintro e w' ⟨rfl, ⟨n100, rfl⟩⟩
  go_wp2_with fail
  go_loopw [5, 6] (fun g i wr => ∃ (k : Nat) (gb : Bool) (m : Nat), k ≤ a0.size ∧ i = .int .i64 k ∧ g = .bool gb ∧ Hid (gb = (decide (a0.data.toList.length ≤ 64) && allK 1 (a0.data.toList.take k))) ∧ wr = x1.drewN m) (fun _ i _ => a0.size - (intOf i).toNat)
  case atStart =>
    refine ⟨0, decide (a0.data.toList.length ≤ 64), _, Nat.zero_le _, rfl, ?_, Lib.hid (by simp [allK]), rfl⟩
    rw [← Lib.size_eq]
    first | rfl | (congr 1; rw [Bool.eq_iff_iff]; simp; try omega)
  case round =>
    obtain ⟨k, gb, m, hk, rfl, rfl, hg, rfl⟩ := hrel
    by_cases hlt : k < a0.size
    · have hl : k < a0.data.toList.length := by rw [← Lib.size_eq]; exact hlt
      have hstep := allK_take_succ 1 a0.data.toList k hl
      cases gb
      · have hg' : Hid (false = (decide (a0.data.toList.length ≤ 64) && allK 1 (a0.data.toList.take (k + 1)))) := by
          refine Lib.hid ?_
          rw [hstep, ← Bool.and_assoc, ← hg.out, Bool.false_and]
        clear hg hstep
        go_wp2
        go_roundw
        case rel => exact ⟨k + 1, false, m, by omega, by go_num, rfl, hg', rfl⟩
        case measure => simp [intOf]; omega
      · have hv : Hid (isKey (a0.extract k (k + 1)).data.toList = decide (1 ≤ kindOf (a0.data.toList[k].toNat : Int))) := by
          refine Lib.hid ?_
          rw [extract_one _ _ hl, isKey_one]
        have hg' : Hid (decide (1 ≤ kindOf (a0.data.toList[k].toNat : Int)) = (decide (a0.data.toList.length ≤ 64) && allK 1 (a0.data.toList.take (k + 1)))) := by
          refine Lib.hid ?_
          rw [hstep, ← Bool.and_assoc, ← hg.out, Bool.true_and]
        have hsz : Hid ((a0.extract k (k + 1)).size ≤ 140737488351232) := Lib.hid (by rw [ByteArray.size_extract]; omega)
        clear hg hstep
        generalize decide (1 ≤ kindOf (a0.data.toList[k].toNat : Int)) = gv at *
        go_wp2_with fail
        refine (key_lit _ _ _ hsz.out hv.out).mono ?_
        rintro e w' ⟨rfl, ⟨n9, rfl⟩⟩
        go_wp2
        go_roundw
        case rel => exact ⟨k + 1, gv, _, by omega, by go_num, rfl, hg', rfl⟩
        case measure => simp [intOf]; omega
    · have hgp : gb = true := by
        have h1 := hg.out
        have h2 : a0.data.toList.take k = a0.data.toList := List.take_of_length_le (by rw [← Lib.size_eq]; omega)
        rw [h2, Bool.and_comm] at h1
        rw [h1]
        exact HP.out
      subst hgp
      clear hg
      go_wp2_with fail
      refine (prefix_lit _ _ _ v0 HP.out).mono ?_
      rintro e w' ⟨rfl, ⟨n95, rfl⟩⟩
      go_wp2_with fail
      refine (prefix_lit _ _ _ v0 HP.out).mono ?_
      rintro e w' ⟨rfl, ⟨n96, rfl⟩⟩
      go_wp2_with fail
      refine (prefix_lit _ _ _ v1 HB.out).mono ?_
      rintro e w' ⟨rfl, ⟨n97, rfl⟩⟩
      go_wp2
      go_ret
      exact ⟨by simp, pw_below_drewN hx1 _⟩
set_option maxHeartbeats 16000000 in
set_option maxRecDepth 100000 in
theorem bytes_key0 (a0 a1 : ByteArray) (w : World) (g0 : ¬ 3000 < a0.size) (g1 : ¬ 3000 < a1.size) (HP : Hid (isPrefix a0.data.toList = true)) (HK : Hid (isKey a0.data.toList = true)) (HN : Hid (isName a0.data.toList = false)) (e0 : (a0.toList == []) = false) (HB : Hid (isPrefix a1.data.toList = false)) :
    Calls Try.prog 5 #[.string a0, .string a1] w fun e w' => e = .returned (.bool true) ∧ Below w.heap.size w w' := by
  have v0 : a0.size ≤ 140737488351232 := by omega
  have v1 : a1.size ≤ 140737488351232 := by omega
  have V2 : Hid ((a0 ++ a1).size ≤ 140737488351232) := Lib.hid (by rw [ByteArray.size_append]; omega)
  go_enter Try.func5, Try.ntmps5
  go_wp2_with fail
  refine (awake_any _).mono ?_
  rintro e x1 ⟨rfl, hx1⟩
  go_wp2_with fail
  refine (key_lit _ _ _ v0 HK.out).mono ?_
  rintro e w' ⟨rfl, ⟨n104, rfl⟩⟩
  go_wp2_with fail
  refine (prefix_lit _ _ _ v0 HP.out).mono ?_
  rintro e w' ⟨rfl, ⟨n105, rfl⟩⟩
  go_wp2_with fail
  refine (name_lit _ _ _ v0 HN.out).mono ?_
  rintro e w' ⟨rfl, ⟨n106, rfl⟩⟩
  go_wp2_with fail
  refine (prefix_lit _ _ _ v0 HP.out).mono ?_
  rintro e w' ⟨rfl, ⟨n107, rfl⟩⟩
  go_wp2_with fail
  refine (key_lit _ _ _ v0 HK.out).mono ?_
  rintro e w' ⟨rfl, ⟨n108, rfl⟩⟩
  go_wp2_with fail
  go_loopw [5, 6] (fun g i wr => ∃ (k : Nat) (gb : Bool) (m : Nat), k ≤ a0.size ∧ i = .int .i64 k ∧ g = .bool gb ∧ Hid (gb = (decide (a0.data.toList.length ≤ 64) && allK 1 (a0.data.toList.take k))) ∧ wr = x1.drewN m) (fun _ i _ => a0.size - (intOf i).toNat)
  case atStart =>
    refine ⟨0, decide (a0.data.toList.length ≤ 64), _, Nat.zero_le _, rfl, ?_, Lib.hid (by simp [allK]), rfl⟩
    rw [← Lib.size_eq]
    first | rfl | (congr 1; rw [Bool.eq_iff_iff]; simp; try omega)
  case round =>
    obtain ⟨k, gb, m, hk, rfl, rfl, hg, rfl⟩ := hrel
    by_cases hlt : k < a0.size
    · have hl : k < a0.data.toList.length := by rw [← Lib.size_eq]; exact hlt
      have hstep := allK_take_succ 1 a0.data.toList k hl
      cases gb
      · have hg' : Hid (false = (decide (a0.data.toList.length ≤ 64) && allK 1 (a0.data.toList.take (k + 1)))) := by
          refine Lib.hid ?_
          rw [hstep, ← Bool.and_assoc, ← hg.out, Bool.false_and]
        clear hg hstep
        go_wp2
        go_roundw
        case rel => exact ⟨k + 1, false, m, by omega, by go_num, rfl, hg', rfl⟩
        case measure => simp [intOf]; omega
      · have hv : Hid (isKey (a0.extract k (k + 1)).data.toList = decide (1 ≤ kindOf (a0.data.toList[k].toNat : Int))) := by
          refine Lib.hid ?_
          rw [extract_one _ _ hl, isKey_one]
        have hg' : Hid (decide (1 ≤ kindOf (a0.data.toList[k].toNat : Int)) = (decide (a0.data.toList.length ≤ 64) && allK 1 (a0.data.toList.take (k + 1)))) := by
          refine Lib.hid ?_
          rw [hstep, ← Bool.and_assoc, ← hg.out, Bool.true_and]
        have hsz : Hid ((a0.extract k (k + 1)).size ≤ 140737488351232) := Lib.hid (by rw [ByteArray.size_extract]; omega)
        clear hg hstep
        generalize decide (1 ≤ kindOf (a0.data.toList[k].toNat : Int)) = gv at *
        go_wp2_with fail
        refine (key_lit _ _ _ hsz.out hv.out).mono ?_
        rintro e w' ⟨rfl, ⟨n9, rfl⟩⟩
        go_wp2
        go_roundw
        case rel => exact ⟨k + 1, gv, _, by omega, by go_num, rfl, hg', rfl⟩
        case measure => simp [intOf]; omega
    · have hgp : gb = true := by
        have h1 := hg.out
        have h2 : a0.data.toList.take k = a0.data.toList := List.take_of_length_le (by rw [← Lib.size_eq]; omega)
        rw [h2, Bool.and_comm] at h1
        rw [h1]
        exact HP.out
      subst hgp
      clear hg
      go_wp2_with fail
      refine (prefix_lit _ _ _ v0 HP.out).mono ?_
      rintro e w' ⟨rfl, ⟨n101, rfl⟩⟩
      go_wp2_with fail
      refine (prefix_lit _ _ _ v0 HP.out).mono ?_
      rintro e w' ⟨rfl, ⟨n102, rfl⟩⟩
      go_wp2_with fail
      refine (prefix_lit _ _ _ v1 HB.out).mono ?_
      rintro e w' ⟨rfl, ⟨n103, rfl⟩⟩
      go_wp2
      go_ret
      exact ⟨by simp, pw_below_drewN hx1 _⟩
set_option maxHeartbeats 16000000 in
set_option maxRecDepth 100000 in
theorem bytes_name0 (a0 a1 : ByteArray) (w : World) (g0 : ¬ 3000 < a0.size) (g1 : ¬ 3000 < a1.size) (HP : Hid (isPrefix a0.data.toList = true)) (HK : Hid (isKey a0.data.toList = true)) (HN : Hid (isName a0.data.toList = true)) (e0 : (a0.toList == []) = false) (HB : Hid (isPrefix a1.data.toList = false)) :
    Calls Try.prog 5 #[.string a0, .string a1] w fun e w' => e = .returned (.bool true) ∧ Below w.heap.size w w' := by
  have v0 : a0.size ≤ 140737488351232 := by omega
  have v1 : a1.size ≤ 140737488351232 := by omega
  have V2 : Hid ((a0 ++ a1).size ≤ 140737488351232) := Lib.hid (by rw [ByteArray.size_append]; omega)
  go_enter Try.func5, Try.ntmps5
  go_wp2_with fail
  refine (awake_any _).mono ?_
  rintro e x1 ⟨rfl, hx1⟩
  go_wp2_with fail
  refine (key_lit _ _ _ v0 HK.out).mono ?_
  rintro e w' ⟨rfl, ⟨n112, rfl⟩⟩
  go_wp2_with fail
  refine (prefix_lit _ _ _ v0 HP.out).mono ?_
  rintro e w' ⟨rfl, ⟨n113, rfl⟩⟩
  go_wp2_with fail
  refine (name_lit _ _ _ v0 HN.out).mono ?_
  rintro e w' ⟨rfl, ⟨n114, rfl⟩⟩
  go_wp2_with fail
  refine (key_lit _ _ _ v0 HK.out).mono ?_
  rintro e w' ⟨rfl, ⟨n115, rfl⟩⟩
  go_wp2_with fail
  refine (prefix_lit _ _ _ v0 HP.out).mono ?_
  rintro e w' ⟨rfl, ⟨n116, rfl⟩⟩
  go_wp2_with fail
  refine (key_lit _ _ _ v0 HK.out).mono ?_
  rintro e w' ⟨rfl, ⟨n117, rfl⟩⟩
  go_wp2_with fail
  go_loopw [5, 6] (fun g i wr => ∃ (k : Nat) (gb : Bool) (m : Nat), k ≤ a0.size ∧ i = .int .i64 k ∧ g = .bool gb ∧ Hid (gb = (decide (a0.data.toList.length ≤ 64) && allK 1 (a0.data.toList.take k))) ∧ wr = x1.drewN m) (fun _ i _ => a0.size - (intOf i).toNat)
  case atStart =>
    refine ⟨0, decide (a0.data.toList.length ≤ 64), _, Nat.zero_le _, rfl, ?_, Lib.hid (by simp [allK]), rfl⟩
    rw [← Lib.size_eq]
    first | rfl | (congr 1; rw [Bool.eq_iff_iff]; simp; try omega)
  case round =>
    obtain ⟨k, gb, m, hk, rfl, rfl, hg, rfl⟩ := hrel
    by_cases hlt : k < a0.size
    · have hl : k < a0.data.toList.length := by rw [← Lib.size_eq]; exact hlt
      have hstep := allK_take_succ 1 a0.data.toList k hl
      cases gb
      · have hg' : Hid (false = (decide (a0.data.toList.length ≤ 64) && allK 1 (a0.data.toList.take (k + 1)))) := by
          refine Lib.hid ?_
          rw [hstep, ← Bool.and_assoc, ← hg.out, Bool.false_and]
        clear hg hstep
        go_wp2
        go_roundw
        case rel => exact ⟨k + 1, false, m, by omega, by go_num, rfl, hg', rfl⟩
        case measure => simp [intOf]; omega
      · have hv : Hid (isKey (a0.extract k (k + 1)).data.toList = decide (1 ≤ kindOf (a0.data.toList[k].toNat : Int))) := by
          refine Lib.hid ?_
          rw [extract_one _ _ hl, isKey_one]
        have hg' : Hid (decide (1 ≤ kindOf (a0.data.toList[k].toNat : Int)) = (decide (a0.data.toList.length ≤ 64) && allK 1 (a0.data.toList.take (k + 1)))) := by
          refine Lib.hid ?_
          rw [hstep, ← Bool.and_assoc, ← hg.out, Bool.true_and]
        have hsz : Hid ((a0.extract k (k + 1)).size ≤ 140737488351232) := Lib.hid (by rw [ByteArray.size_extract]; omega)
        clear hg hstep
        generalize decide (1 ≤ kindOf (a0.data.toList[k].toNat : Int)) = gv at *
        go_wp2_with fail
        refine (key_lit _ _ _ hsz.out hv.out).mono ?_
        rintro e w' ⟨rfl, ⟨n9, rfl⟩⟩
        go_wp2
        go_roundw
        case rel => exact ⟨k + 1, gv, _, by omega, by go_num, rfl, hg', rfl⟩
        case measure => simp [intOf]; omega
    · have hgp : gb = true := by
        have h1 := hg.out
        have h2 : a0.data.toList.take k = a0.data.toList := List.take_of_length_le (by rw [← Lib.size_eq]; omega)
        rw [h2, Bool.and_comm] at h1
        rw [h1]
        exact HP.out
      subst hgp
      clear hg
      go_wp2_with fail
      refine (prefix_lit _ _ _ v0 HP.out).mono ?_
      rintro e w' ⟨rfl, ⟨n109, rfl⟩⟩
      go_wp2_with fail
      refine (prefix_lit _ _ _ v0 HP.out).mono ?_
      rintro e w' ⟨rfl, ⟨n110, rfl⟩⟩
      go_wp2_with fail
      refine (prefix_lit _ _ _ v1 HB.out).mono ?_
      rintro e w' ⟨rfl, ⟨n111, rfl⟩⟩
      go_wp2
      go_ret
      exact ⟨by simp, pw_below_drewN hx1 _⟩
set_option maxHeartbeats 16000000 in
set_option maxRecDepth 100000 in
theorem bytes_nil1 (a0 a1 : ByteArray) (w : World) (g0 : ¬ 3000 < a0.size) (g1 : ¬ 3000 < a1.size) (HP : Hid (isPrefix a0.data.toList = true)) (HK : Hid (isKey a0.data.toList = false)) (HN : Hid (isName a0.data.toList = false)) (e0 : (a0.toList == []) = true) (HB : Hid (isPrefix a1.data.toList = true)) (HE : Hid (isPrefix (a0 ++ a1).data.toList = decide ((a0.size : Int) + (a1.size : Int) ≤ 64))) :
    Calls Try.prog 5 #[.string a0, .string a1] w fun e w' => e = .returned (.bool true) ∧ Below w.heap.size w w' := by
  have v0 : a0.size ≤ 140737488351232 := by omega
  have v1 : a1.size ≤ 140737488351232 := by omega
  have V2 : Hid ((a0 ++ a1).size ≤ 140737488351232) := Lib.hid (by rw [ByteArray.size_append]; omega)
  go_enter Try.func5, Try.ntmps5
  go_wp2_with fail
  refine (awake_any _).mono ?_
  rintro e x1 ⟨rfl, hx1⟩
  go_wp2_with fail
  refine (key_lit _ _ _ v0 HK.out).mono ?_
  rintro e w' ⟨rfl, ⟨n122, rfl⟩⟩
  go_wp2_with fail
  refine (name_lit _ _ _ v0 HN.out).mono ?_
  rintro e w' ⟨rfl, ⟨n123, rfl⟩⟩
  go_wp2_with fail
  refine (prefix_lit _ _ _ v0 HP.out).mono ?_
  rintro e w' ⟨rfl, ⟨n124, rfl⟩⟩
  go_wp2_with fail
  go_loopw [5, 6] (fun g i wr => ∃ (k : Nat) (gb : Bool) (m : Nat), k ≤ a0.size ∧ i = .int .i64 k ∧ g = .bool gb ∧ Hid (gb = (decide (a0.data.toList.length ≤ 64) && allK 1 (a0.data.toList.take k))) ∧ wr = x1.drewN m) (fun _ i _ => a0.size - (intOf i).toNat)
  case atStart =>
    refine ⟨0, decide (a0.data.toList.length ≤ 64), _, Nat.zero_le _, rfl, ?_, Lib.hid (by simp [allK]), rfl⟩
    rw [← Lib.size_eq]
    first | rfl | (congr 1; rw [Bool.eq_iff_iff]; simp; try omega)
  case round =>
    obtain ⟨k, gb, m, hk, rfl, rfl, hg, rfl⟩ := hrel
    by_cases hlt : k < a0.size
    · have hl : k < a0.data.toList.length := by rw [← Lib.size_eq]; exact hlt
      have hstep := allK_take_succ 1 a0.data.toList k hl
      cases gb
      · have hg' : Hid (false = (decide (a0.data.toList.length ≤ 64) && allK 1 (a0.data.toList.take (k + 1)))) := by
          refine Lib.hid ?_
          rw [hstep, ← Bool.and_assoc, ← hg.out, Bool.false_and]
        clear hg hstep
        go_wp2
        go_roundw
        case rel => exact ⟨k + 1, false, m, by omega, by go_num, rfl, hg', rfl⟩
        case measure => simp [intOf]; omega
      · have hv : Hid (isKey (a0.extract k (k + 1)).data.toList = decide (1 ≤ kindOf (a0.data.toList[k].toNat : Int))) := by
          refine Lib.hid ?_
          rw [extract_one _ _ hl, isKey_one]
        have hg' : Hid (decide (1 ≤ kindOf (a0.data.toList[k].toNat : Int)) = (decide (a0.data.toList.length ≤ 64) && allK 1 (a0.data.toList.take (k + 1)))) := by
          refine Lib.hid ?_
          rw [hstep, ← Bool.and_assoc, ← hg.out, Bool.true_and]
        have hsz : Hid ((a0.extract k (k + 1)).size ≤ 140737488351232) := Lib.hid (by rw [ByteArray.size_extract]; omega)
        clear hg hstep
        generalize decide (1 ≤ kindOf (a0.data.toList[k].toNat : Int)) = gv at *
        go_wp2_with fail
        refine (key_lit _ _ _ hsz.out hv.out).mono ?_
        rintro e w' ⟨rfl, ⟨n9, rfl⟩⟩
        go_wp2
        go_roundw
        case rel => exact ⟨k + 1, gv, _, by omega, by go_num, rfl, hg', rfl⟩
        case measure => simp [intOf]; omega
    · have hgp : gb = true := by
        have h1 := hg.out
        have h2 : a0.data.toList.take k = a0.data.toList := List.take_of_length_le (by rw [← Lib.size_eq]; omega)
        rw [h2, Bool.and_comm] at h1
        rw [h1]
        exact HP.out
      subst hgp
      clear hg
      go_wp2_with fail
      refine (prefix_lit _ _ _ v0 HP.out).mono ?_
      rintro e w' ⟨rfl, ⟨n118, rfl⟩⟩
      go_wp2_with fail
      refine (prefix_lit _ _ _ v0 HP.out).mono ?_
      rintro e w' ⟨rfl, ⟨n119, rfl⟩⟩
      go_wp2_with fail
      refine (prefix_lit _ _ _ v1 HB.out).mono ?_
      rintro e w' ⟨rfl, ⟨n120, rfl⟩⟩
      go_wp2_with fail
      refine (prefix_lit _ _ _ V2.out HE.out).mono ?_
      rintro e w' ⟨rfl, ⟨n121, rfl⟩⟩
      go_wp2
      go_ret
      exact ⟨by simp, pw_below_drewN hx1 _⟩
set_option maxHeartbeats 16000000 in
set_option maxRecDepth 100000 in
theorem bytes_key1 (a0 a1 : ByteArray) (w : World) (g0 : ¬ 3000 < a0.size) (g1 : ¬ 3000 < a1.size) (HP : Hid (isPrefix a0.data.toList = true)) (HK : Hid (isKey a0.data.toList = true)) (HN : Hid (isName a0.data.toList = false)) (e0 : (a0.toList == []) = false) (HB : Hid (isPrefix a1.data.toList = true)) (HE : Hid (isPrefix (a0 ++ a1).data.toList = decide ((a0.size : Int) + (a1.size : Int) ≤ 64))) :
    Calls Try.prog 5 #[.string a0, .string a1] w fun e w' => e = .returned (.bool true) ∧ Below w.heap.size w w' := by
  have v0 : a0.size ≤ 140737488351232 := by omega
  have v1 : a1.size ≤ 140737488351232 := by omega
  have V2 : Hid ((a0 ++ a1).size ≤ 140737488351232) := Lib.hid (by rw [ByteArray.size_append]; omega)
  go_enter Try.func5, Try.ntmps5
  go_wp2_with fail
  refine (awake_any _).mono ?_
  rintro e x1 ⟨rfl, hx1⟩
  go_wp2_with fail
  refine (key_lit _ _ _ v0 HK.out).mono ?_
  rintro e w' ⟨rfl, ⟨n129, rfl⟩⟩
  go_wp2_with fail
  refine (prefix_lit _ _ _ v0 HP.out).mono ?_
  rintro e w' ⟨rfl, ⟨n130, rfl⟩⟩
  go_wp2_with fail
  refine (name_lit _ _ _ v0 HN.out).mono ?_
  rintro e w' ⟨rfl, ⟨n131, rfl⟩⟩
  go_wp2_with fail
  refine (prefix_lit _ _ _ v0 HP.out).mono ?_
  rintro e w' ⟨rfl, ⟨n132, rfl⟩⟩
  go_wp2_with fail
  refine (key_lit _ _ _ v0 HK.out).mono ?_
  rintro e w' ⟨rfl, ⟨n133, rfl⟩⟩
  go_wp2_with fail
  go_loopw [5, 6] (fun g i wr => ∃ (k : Nat) (gb : Bool) (m : Nat), k ≤ a0.size ∧ i = .int .i64 k ∧ g = .bool gb ∧ Hid (gb = (decide (a0.data.toList.length ≤ 64) && allK 1 (a0.data.toList.take k))) ∧ wr = x1.drewN m) (fun _ i _ => a0.size - (intOf i).toNat)
  case atStart =>
    refine ⟨0, decide (a0.data.toList.length ≤ 64), _, Nat.zero_le _, rfl, ?_, Lib.hid (by simp [allK]), rfl⟩
    rw [← Lib.size_eq]
    first | rfl | (congr 1; rw [Bool.eq_iff_iff]; simp; try omega)
  case round =>
    obtain ⟨k, gb, m, hk, rfl, rfl, hg, rfl⟩ := hrel
    by_cases hlt : k < a0.size
    · have hl : k < a0.data.toList.length := by rw [← Lib.size_eq]; exact hlt
      have hstep := allK_take_succ 1 a0.data.toList k hl
      cases gb
      · have hg' : Hid (false = (decide (a0.data.toList.length ≤ 64) && allK 1 (a0.data.toList.take (k + 1)))) := by
          refine Lib.hid ?_
          rw [hstep, ← Bool.and_assoc, ← hg.out, Bool.false_and]
        clear hg hstep
        go_wp2
        go_roundw
        case rel => exact ⟨k + 1, false, m, by omega, by go_num, rfl, hg', rfl⟩
        case measure => simp [intOf]; omega
      · have hv : Hid (isKey (a0.extract k (k + 1)).data.toList = decide (1 ≤ kindOf (a0.data.toList[k].toNat : Int))) := by
          refine Lib.hid ?_
          rw [extract_one _ _ hl, isKey_one]
        have hg' : Hid (decide (1 ≤ kindOf (a0.data.toList[k].toNat : Int)) = (decide (a0.data.toList.length ≤ 64) && allK 1 (a0.data.toList.take (k + 1)))) := by
          refine Lib.hid ?_
          rw [hstep, ← Bool.and_assoc, ← hg.out, Bool.true_and]
        have hsz : Hid ((a0.extract k (k + 1)).size ≤ 140737488351232) := Lib.hid (by rw [ByteArray.size_extract]; omega)
        clear hg hstep
        generalize decide (1 ≤ kindOf (a0.data.toList[k].toNat : Int)) = gv at *
        go_wp2_with fail
        refine (key_lit _ _ _ hsz.out hv.out).mono ?_
        rintro e w' ⟨rfl, ⟨n9, rfl⟩⟩
        go_wp2
        go_roundw
        case rel => exact ⟨k + 1, gv, _, by omega, by go_num, rfl, hg', rfl⟩
        case measure => simp [intOf]; omega
    · have hgp : gb = true := by
        have h1 := hg.out
        have h2 : a0.data.toList.take k = a0.data.toList := List.take_of_length_le (by rw [← Lib.size_eq]; omega)
        rw [h2, Bool.and_comm] at h1
        rw [h1]
        exact HP.out
      subst hgp
      clear hg
      go_wp2_with fail
      refine (prefix_lit _ _ _ v0 HP.out).mono ?_
      rintro e w' ⟨rfl, ⟨n125, rfl⟩⟩
      go_wp2_with fail
      refine (prefix_lit _ _ _ v0 HP.out).mono ?_
      rintro e w' ⟨rfl, ⟨n126, rfl⟩⟩
      go_wp2_with fail
      refine (prefix_lit _ _ _ v1 HB.out).mono ?_
      rintro e w' ⟨rfl, ⟨n127, rfl⟩⟩
      go_wp2_with fail
      refine (prefix_lit _ _ _ V2.out HE.out).mono ?_
      rintro e w' ⟨rfl, ⟨n128, rfl⟩⟩
      go_wp2
      go_ret
      exact ⟨by simp, pw_below_drewN hx1 _⟩
set_option maxHeartbeats 16000000 in
set_option maxRecDepth 100000 in
theorem bytes_name1 (a0 a1 : ByteArray) (w : World) (g0 : ¬ 3000 < a0.size) (g1 : ¬ 3000 < a1.size) (HP : Hid (isPrefix a0.data.toList = true)) (HK : Hid (isKey a0.data.toList = true)) (HN : Hid (isName a0.data.toList = true)) (e0 : (a0.toList == []) = false) (HB : Hid (isPrefix a1.data.toList = true)) (HE : Hid (isPrefix (a0 ++ a1).data.toList = decide ((a0.size : Int) + (a1.size : Int) ≤ 64))) :
    Calls Try.prog 5 #[.string a0, .string a1] w fun e w' => e = .returned (.bool true) ∧ Below w.heap.size w w' := by
  have v0 : a0.size ≤ 140737488351232 := by omega
  have v1 : a1.size ≤ 140737488351232 := by omega
  have V2 : Hid ((a0 ++ a1).size ≤ 140737488351232) := Lib.hid (by rw [ByteArray.size_append]; omega)
  go_enter Try.func5, Try.ntmps5
  go_wp2_with fail
  refine (awake_any _).mono ?_
  rintro e x1 ⟨rfl, hx1⟩
  go_wp2_with fail
  refine (key_lit _ _ _ v0 HK.out).mono ?_
  rintro e w' ⟨rfl, ⟨n138, rfl⟩⟩
  go_wp2_with fail
  refine (prefix_lit _ _ _ v0 HP.out).mono ?_
  rintro e w' ⟨rfl, ⟨n139, rfl⟩⟩
  go_wp2_with fail
  refine (name_lit _ _ _ v0 HN.out).mono ?_
  rintro e w' ⟨rfl, ⟨n140, rfl⟩⟩
  go_wp2_with fail
  refine (key_lit _ _ _ v0 HK.out).mono ?_
  rintro e w' ⟨rfl, ⟨n141, rfl⟩⟩
  go_wp2_with fail
  refine (prefix_lit _ _ _ v0 HP.out).mono ?_
  rintro e w' ⟨rfl, ⟨n142, rfl⟩⟩
  go_wp2_with fail
  refine (key_lit _ _ _ v0 HK.out).mono ?_
  rintro e w' ⟨rfl, ⟨n143, rfl⟩⟩
  go_wp2_with fail
  go_loopw [5, 6] (fun g i wr => ∃ (k : Nat) (gb : Bool) (m : Nat), k ≤ a0.size ∧ i = .int .i64 k ∧ g = .bool gb ∧ Hid (gb = (decide (a0.data.toList.length ≤ 64) && allK 1 (a0.data.toList.take k))) ∧ wr = x1.drewN m) (fun _ i _ => a0.size - (intOf i).toNat)
  case atStart =>
    refine ⟨0, decide (a0.data.toList.length ≤ 64), _, Nat.zero_le _, rfl, ?_, Lib.hid (by simp [allK]), rfl⟩
    rw [← Lib.size_eq]
    first | rfl | (congr 1; rw [Bool.eq_iff_iff]; simp; try omega)
  case round =>
    obtain ⟨k, gb, m, hk, rfl, rfl, hg, rfl⟩ := hrel
    by_cases hlt : k < a0.size
    · have hl : k < a0.data.toList.length := by rw [← Lib.size_eq]; exact hlt
      have hstep := allK_take_succ 1 a0.data.toList k hl
      cases gb
      · have hg' : Hid (false = (decide (a0.data.toList.length ≤ 64) && allK 1 (a0.data.toList.take (k + 1)))) := by
          refine Lib.hid ?_
          rw [hstep, ← Bool.and_assoc, ← hg.out, Bool.false_and]
        clear hg hstep
        go_wp2
        go_roundw
        case rel => exact ⟨k + 1, false, m, by omega, by go_num, rfl, hg', rfl⟩
        case measure => simp [intOf]; omega
      · have hv : Hid (isKey (a0.extract k (k + 1)).data.toList = decide (1 ≤ kindOf (a0.data.toList[k].toNat : Int))) := by
          refine Lib.hid ?_
          rw [extract_one _ _ hl, isKey_one]
        have hg' : Hid (decide (1 ≤ kindOf (a0.data.toList[k].toNat : Int)) = (decide (a0.data.toList.length ≤ 64) && allK 1 (a0.data.toList.take (k + 1)))) := by
          refine Lib.hid ?_
          rw [hstep, ← Bool.and_assoc, ← hg.out, Bool.true_and]
        have hsz : Hid ((a0.extract k (k + 1)).size ≤ 140737488351232) := Lib.hid (by rw [ByteArray.size_extract]; omega)
        clear hg hstep
        generalize decide (1 ≤ kindOf (a0.data.toList[k].toNat : Int)) = gv at *
        go_wp2_with fail
        refine (key_lit _ _ _ hsz.out hv.out).mono ?_
        rintro e w' ⟨rfl, ⟨n9, rfl⟩⟩
        go_wp2
        go_roundw
        case rel => exact ⟨k + 1, gv, _, by omega, by go_num, rfl, hg', rfl⟩
        case measure => simp [intOf]; omega
    · have hgp : gb = true := by
        have h1 := hg.out
        have h2 : a0.data.toList.take k = a0.data.toList := List.take_of_length_le (by rw [← Lib.size_eq]; omega)
        rw [h2, Bool.and_comm] at h1
        rw [h1]
        exact HP.out
      subst hgp
      clear hg
      go_wp2_with fail
      refine (prefix_lit _ _ _ v0 HP.out).mono ?_
      rintro e w' ⟨rfl, ⟨n134, rfl⟩⟩
      go_wp2_with fail
      refine (prefix_lit _ _ _ v0 HP.out).mono ?_
      rintro e w' ⟨rfl, ⟨n135, rfl⟩⟩
      go_wp2_with fail
      refine (prefix_lit _ _ _ v1 HB.out).mono ?_
      rintro e w' ⟨rfl, ⟨n136, rfl⟩⟩
      go_wp2_with fail
      refine (prefix_lit _ _ _ V2.out HE.out).mono ?_
      rintro e w' ⟨rfl, ⟨n137, rfl⟩⟩
      go_wp2
      go_ret
      exact ⟨by simp, pw_below_drewN hx1 _⟩
set_option maxHeartbeats 16000000 in
set_option maxRecDepth 100000 in
theorem KeysBytes_walk (a0 a1 : ByteArray) (w : World) (w0 : a0.size ≤ 140737488351232) (w1 : a1.size ≤ 140737488351232) :
    Calls Try.prog 5 #[.string a0, .string a1] w fun e w' => e = .returned (.bool true) ∧ Below w.heap.size w w' := by
  by_cases g0 : 3000 < a0.size
  · go_enter Try.func5, Try.ntmps5
    go_wp2_with fail
    refine (awake_any _).mono ?_
    rintro e x1 ⟨rfl, hx1⟩
    go_wp2
    go_ret
    exact ⟨rfl, hx1⟩
  by_cases g1 : 3000 < a1.size
  · go_enter Try.func5, Try.ntmps5
    go_wp2_with fail
    refine (awake_any _).mono ?_
    rintro e x1 ⟨rfl, hx1⟩
    go_wp2
    go_ret
    exact ⟨rfl, hx1⟩
  have happ : ∀ (h0 : isPrefix a0.data.toList = true) (h1 : isPrefix a1.data.toList = true), isPrefix (a0 ++ a1).data.toList = decide ((a0.size : Int) + (a1.size : Int) ≤ 64) := by
    intro h0 h1
    have h2 : (a0 ++ a1).data.toList = a0.data.toList ++ a1.data.toList := by simp
    rw [h2, isPrefix_append _ _ h0 h1, ← Lib.size_eq, ← Lib.size_eq]
    rw [Bool.eq_iff_iff]
    simp
    omega
  by_cases hne : a0.data.toList = []
  · have e0 : (a0.toList == []) = true := by rw [Lib.toList_data, hne]; rfl
    have p1 : isPrefix a0.data.toList = true := by rw [hne]; rfl
    have p2 : isKey a0.data.toList = false := by rw [hne]; rfl
    have p3 : isName a0.data.toList = false := by rw [hne]; rfl
    cases hb : isPrefix a1.data.toList
    · exact bytes_nil0 a0 a1 w g0 g1 (Lib.hid p1) (Lib.hid p2) (Lib.hid p3) e0 (Lib.hid hb)
    · exact bytes_nil1 a0 a1 w g0 g1 (Lib.hid p1) (Lib.hid p2) (Lib.hid p3) e0 (Lib.hid hb) (Lib.hid (happ p1 hb))
  · have e0 : (a0.toList == []) = false := by rw [Lib.toList_data, beq_eq_false_iff_ne]; exact hne
    have hk : isKey a0.data.toList = isPrefix a0.data.toList := key_prefix hne
    cases hp : isPrefix a0.data.toList
    · rw [hp] at hk
      have hn : isName a0.data.toList = false := by
        rw [Bool.eq_false_iff]
        intro h
        rw [name_key h] at hk
        cases hk
      exact bytes_no a0 a1 w g0 g1 (Lib.hid hp) (Lib.hid hk) (Lib.hid hn) e0
    · rw [hp] at hk
      cases hb : isPrefix a1.data.toList
      · cases hn : isName a0.data.toList
        · exact bytes_key0 a0 a1 w g0 g1 (Lib.hid hp) (Lib.hid hk) (Lib.hid hn) e0 (Lib.hid hb)
        · exact bytes_name0 a0 a1 w g0 g1 (Lib.hid hp) (Lib.hid hk) (Lib.hid hn) e0 (Lib.hid hb)
      · cases hn : isName a0.data.toList
        · exact bytes_key1 a0 a1 w g0 g1 (Lib.hid hp) (Lib.hid hk) (Lib.hid hn) e0 (Lib.hid hb) (Lib.hid (happ hp hb))
        · exact bytes_name1 a0 a1 w g0 g1 (Lib.hid hp) (Lib.hid hk) (Lib.hid hn) e0 (Lib.hid hb) (Lib.hid (happ hp hb))
end Go.Proofs.Ytidcdijplbopeaa.KP
