import Derived.Test.YtobanhbjkomieaaPAllx0Sv
import Derived.Test.YtobanhbjkomieaaPAllx1Sv
import Derived.Test.YtobanhbjkomieaaPAllx2Sv
import Derived.Test.YtobanhbjkomieaaPAllx3Sv
import Derived.Test.YtobanhbjkomieaaPAllx4Sv
import Derived.Lib.ConvBytes
import Derived.Lib.AppendStr
import Derived.Deep.RegionWith
namespace Go.Proofs.Ytobanhbjkomieaa.BP
open Go.RowKit Go.Proofs.Ytobanhbjkomieaa.PAll Go.Proofs.YtobanhbjkomieaaW.PrintWords Go.Proofs.YtobanhbjkomieaaW.PrintLast Go.Proofs.YtobanhbjkomieaaW.PrintMore
def vint (n : Nat) : List Int := if n < 128 then [(n : Int)] else (((n % 128 : Nat) : Int) + 128) :: vint (n / 128)
termination_by n
decreasing_by omega
theorem vint_small {n : Nat} (h : n < 128) : vint n = [(n : Int)] := by rw [vint, if_pos h]
theorem vint_big {n : Nat} (h : ¬ n < 128) : vint n = (((n % 128 : Nat) : Int) + 128) :: vint (n / 128) := by rw [vint, if_neg h]
theorem vint_len : ∀ (k n : Nat), n < 128 ^ (k + 1) → (vint n).length ≤ k + 1
  | 0, n, h => by rw [vint_small (by simpa using h)]; simp
  | k + 1, n, h => by
    by_cases hn : n < 128
    · rw [vint_small hn]; simp
    · rw [vint_big hn]
      have := vint_len k (n / 128) (by rw [Nat.pow_succ] at h; exact Nat.div_lt_of_lt_mul (by rw [Nat.mul_comm]; exact h))
      simp
      omega
theorem vint_len10 {n : Nat} (h : n < 18446744073709551616) : (vint n).length ≤ 10 := vint_len 9 n (by omega)
theorem or128 : ∀ x : Fin 256, Go.bits .or .u8 ((x.val : Nat) : Int) 128 = ((x.val % 128 : Nat) : Int) + 128 := by decide +kernel
theorem or128_of (m : Nat) : Go.bits .or .u8 ((m : Int) % 256) 128 = ((m % 128 : Nat) : Int) + 128 := by
  have h := or128 ⟨m % 256, by omega⟩
  have e : (((m % 256 : Nat)) : Int) = (m : Int) % 256 := by omega
  rw [e] at h
  rw [h]
  have : m % 256 % 128 = m % 128 := by omega
  rw [this]
theorem info5' : (Try.prog.info? 5).map (fun i => (i.zero, i.size, i.bytes)) = some (some (.int .u8 0), 1, 1) := by kernel_rfl
set_option maxHeartbeats 8000000 in
set_option maxRecDepth 100000 in
theorem putUvarint_any (base : Nat) (v : Value) (xs : List Int) (n : Nat) (w : World) (hown : w.ownsRow base 5 1 v xs.length (nums .u8 xs)) (hb : base ≤ w.heap.size) (hl : xs.length ≤ 1099511627776) (hn : n < 18446744073709551616) :
    Calls Try.prog 158 #[v, .int .u64 n] w fun e w' => ∃ v', e = .returned v' ∧ w'.ownsRow base 5 1 v' (xs ++ vint n).length (nums .u8 (xs ++ vint n)) ∧ Below base w w' := by
  obtain ⟨i0, hi, hz0, hz1, hz2⟩ := info_parts info5'
  have hvl := vint_len10 hn
  go_enter Try.func158, Try.ntmps158
  go_wp2_with fail
  go_loopw [0, 1] (fun b c wr => ∃ (ys : List Int) (m : Nat), c = .int .u64 m ∧ m < 18446744073709551616 ∧ Hid (ys ++ vint m = xs ++ vint n) ∧ wr.ownsRow base 5 1 b ys.length (nums .u8 ys) ∧ Below base w wr ∧ ys.length ≤ 1099511627786) (fun _ c _ => (intOf c).toNat)
  case atStart => exact ⟨xs, n, rfl, hn, Lib.hid rfl, hown, Below.refl _ _, by omega⟩
  case round =>
    obtain ⟨ys, m, rfl, hm, hys, ho, hbw, hyl⟩ := hrel
    have hsz := hbw.size
    by_cases hlt : m < 128
    · have hys' : Hid (ys ++ [(m : Int)] = xs ++ vint n) := by
        have := hys.out
        rw [vint_small hlt] at this
        exact Lib.hid this
      clear hys
      go_wp2_with (at_builtin; refine wpList_append_own _ rfl _ _ 178 rfl base 5 i0 (.int .u8 0) 1 1 Try.underlying178 hi hz0 hz1 hz2 rfl (by decide) _ _ _ rfl (ho.alloc _) ⟨wr.heap.size, 0, none⟩ 1 1 [.int .u8 (m : Int)] rfl rfl (cell_one_new _ _ _) (by simp [Value.oneCell']) (by unfold maxLen; omega) (by omega) (by simp; omega) ?_; intro v1 w1 hown1 hgrow1 _)
      go_ret
      have e1 : xs ++ vint n = ys ++ [(m : Int)] := hys'.out.symm
      refine ⟨v1, rfl, ?_, (hbw.alloc (by omega) _).grown hgrow1 (by simp; omega) (own_base ho)⟩
      rw [e1]
      simpa [nums] using hown1
    · have hor : Go.bits .or .u8 ((m : Int) % 256) 128 = ((m % 128 : Nat) : Int) + 128 := or128_of m
      have hys' : Hid (∀ x : Int, x = ((m % 128 : Nat) : Int) + 128 → (ys ++ [x]) ++ vint (m / 128) = xs ++ vint n) := by
        have := hys.out
        rw [vint_big hlt] at this
        refine Lib.hid ?_
        rintro x rfl
        rw [← this]
        simp
      have hyl' : ys.length + 1 ≤ 1099511627786 := by
        have h1 := congrArg List.length (hys'.out _ rfl)
        simp only [List.length_append, List.length_singleton] at h1
        omega
      clear hys
      generalize ((m % 128 : Nat) : Int) + 128 = X at *
      go_wp2_with (at_builtin; refine wpList_append_own _ rfl _ _ 178 rfl base 5 i0 (.int .u8 0) 1 1 Try.underlying178 hi hz0 hz1 hz2 rfl (by decide) _ _ _ rfl (ho.alloc _) ⟨wr.heap.size, 0, none⟩ 1 1 [.int .u8 X] rfl rfl (cell_one_new _ _ _) (by simp [Value.oneCell']) (by unfold maxLen; omega) (by omega) (by simp; omega) ?_; intro v1 w1 hown1 hgrow1 _)
      go_wp2
      go_roundw
      case rel => exact ⟨ys ++ [X], m / 128, by first | rfl | (simp; done), by omega, Lib.hid (hys'.out X rfl), by simpa [nums] using hown1, (hbw.alloc (by omega) _).grown hgrow1 (by simp; omega) (own_base ho), by simpa using hyl'⟩
      case measure => simp [intOf]; omega
def txt (s : ByteArray) : List Int := vint s.size ++ bytesOf s
theorem strCells_nums (s : ByteArray) : Lib.strCells s = nums .u8 (bytesOf s) := by simp [nums, bytesOf, Lib.strCells]
set_option maxHeartbeats 8000000 in
set_option maxRecDepth 100000 in
theorem putText_any (base : Nat) (v : Value) (xs : List Int) (s : ByteArray) (w : World) (hown : w.ownsRow base 5 1 v xs.length (nums .u8 xs)) (hb : base ≤ w.heap.size) (hl : xs.length ≤ 549755813888) (hs : s.size ≤ 549755813888) :
    Calls Try.prog 157 #[v, .string s] w fun e w' => ∃ v', e = .returned v' ∧ w'.ownsRow base 5 1 v' (xs ++ txt s).length (nums .u8 (xs ++ txt s)) ∧ Below base w w' := by
  obtain ⟨i0, hi, hz0, hz1, hz2⟩ := info_parts info5'
  have hc := putUvarint_any base v xs s.size w hown hb (by omega) (by omega)
  have hvl := vint_len10 (n := s.size) (by omega)
  have HC := Lib.hid hc
  clear hc
  go_enter Try.func157, Try.ntmps157
  go_wp2_with fail
  refine HC.out.mono ?_
  rintro e w1 ⟨v1, rfl, ho1, hb1⟩
  have hsz := hb1.size
  go_wp2_with (at_builtin; go_loud (refine Lib.wpList_append_own_string _ rfl _ _ 178 9 rfl base 5 i0 Try.underlying178 Try.underlying9 hi hz0 hz1 hz2 _ _ _ rfl ho1 s rfl (by simp only [List.length_append]; unfold maxLen; omega) (by simp only [List.length_append]; omega) (by omega) ?_); intro v2 w2 hown2 hgrow2 _)
  go_ret
  refine ⟨v2, rfl, ?_, hb1.grown hgrow2 (by omega) (own_base ho1)⟩
  rw [strCells_nums] at hown2
  have e1 : (xs ++ txt s).length = (xs ++ vint s.size).length + s.size := by simp [txt, bytesOf_length]; omega
  have e2 : nums .u8 (xs ++ txt s) = nums .u8 (xs ++ vint s.size) ++ nums .u8 (bytesOf s) := by simp [txt, nums]
  rw [e1, e2]
  exact hown2
end Go.Proofs.Ytobanhbjkomieaa.BP
namespace Go.Proofs.Ytobanhbjkomieaa.BP
open Go.RowKit Go.Proofs.Ytobanhbjkomieaa.PAll Go.Proofs.YtobanhbjkomieaaW.PrintWords Go.Proofs.YtobanhbjkomieaaW.PrintLast Go.Proofs.YtobanhbjkomieaaW.PrintMore
theorem conv_at (W : World) (b : Nat) (X : Int) (h : W.cell? ⟨b, 0, none⟩ = some (.int .u8 X)) : (convert 178 9 (.slice (some ⟨b, 0, none⟩) 1 1)).run Try.prog W = .ok (.string (strOfNums [X])) W := by
  have := string_of_reads (P := Try.prog) (w := W) (src := 178) (dst := 9) (e := 5) (A := some ⟨b, 0, none⟩) (n := 1) (c := 1) (xs := [X]) Try.underlying178 Try.underlying5 Try.underlying9
    ⟨rfl, by decide, fun _ => ⟨_, rfl, fun j hj => by
      obtain rfl : j = 0 := by omega
      exact h⟩⟩
  exact this
theorem cell_keep1 {w x : World} {v : Value} {t : TypeId} {m : Nat} (h : Below ((w.alloc (.cells #[v] t)).drewN m).heap.size ((w.alloc (.cells #[v] t)).drewN m) x) : x.cell? ⟨w.heap.size, 0, none⟩ = some v := by
  rw [h.cell (p := ⟨w.heap.size, 0, none⟩) (by simp)]
  simp
theorem below_1 {w x : World} {o : Obj} {m : Nat} (h : Below ((w.alloc o).drewN m).heap.size ((w.alloc o).drewN m) x) : Below w.heap.size w x :=
  (pw_below_drewN ((Below.refl _ _).alloc (Nat.le_refl _) _) _).trans (h.mono (by simp))
theorem below_0 {w x : World} {m : Nat} (h : Below (w.drewN m).heap.size (w.drewN m) x) : Below w.heap.size w x :=
  (pw_below_drewN (Below.refl _ _) _).trans h
set_option maxHeartbeats 8000000 in
set_option maxRecDepth 100000 in
theorem refVarint_any : ∀ (k n : Nat) (w : World), n < 128 ^ (k + 1) → n < 18446744073709551616 →
    Calls Try.prog 160 #[.int .u64 n] w fun e w' => e = .returned (.string (strOfNums (vint n))) ∧ Below w.heap.size w w'
  | k, n, w, hk, hn => by
    by_cases hlt : n < 128
    · have hs : strOfNums (vint n) = strOfNums [(n : Int)] := by rw [vint_small hlt]
      have HS := Lib.hid hs
      clear hs
      have hc := conv_at (w.alloc (.cells #[.int .u8 (n : Int)] 5)) w.heap.size n (by simp)
      go_enter Try.func160, Try.ntmps160
      go_wp2
      go_ret
      refine ⟨by rw [HS.out]; rfl, (Below.refl _ _).alloc (Nat.le_refl _) _⟩
    · cases k with
      | zero => exact absurd hk (by simpa using hlt)
      | succ k =>
        have ih : ∀ (W : World) (a : Int), a = ((n / 128 : Nat) : Int) → Calls Try.prog 160 #[.int .u64 a] W fun e w' => e = .returned (.string (strOfNums (vint (n / 128)))) ∧ Below W.heap.size W w' := by
          rintro W a rfl
          exact refVarint_any k (n / 128) W (by rw [Nat.pow_succ] at hk; exact Nat.div_lt_of_lt_mul (by rw [Nat.mul_comm]; exact hk)) (by omega)
        have IH := Lib.hid ih
        clear ih
        have hc := conv_at
        have hle := vint_len10 (n := n / 128) (by omega)
        have hsum : ∀ X : Int, (strOfNums [X]).size + (strOfNums (vint (n / 128))).size ≤ 9223372036854775807 := fun X => by rw [strOfNums_size, strOfNums_size]; simp; omega
        have hsum2 : ∀ X : Int, (9223372036854775807 < (strOfNums [X]).size + (strOfNums (vint (n / 128))).size) = False := fun X => eq_false (by have := hsum X; omega)
        have hv : strOfNums [IntKind.u8.wrap (IntKind.u8.wrap ((n : Int).tmod 128) + 128)] ++ strOfNums (vint (n / 128)) = strOfNums (vint n) := by
          rw [vint_big hlt]
          have e1 : (n : Int).tmod 128 = ((n % 128 : Nat) : Int) := by rw [Int.tmod_eq_emod_of_nonneg (by omega)]; omega
          have e2 : IntKind.u8.wrap (IntKind.u8.wrap ((n : Int).tmod 128) + 128) = ((n % 128 : Nat) : Int) + 128 := by
            rw [e1, IntKind.wrap_u8, IntKind.wrap_u8]; omega
          rw [e2]
          apply WideShapes.bytes_inj
          simp [strOfNums]
        have HV := Lib.hid hv
        clear hv
        generalize vint (n / 128) = V at *
        go_enter Try.func160, Try.ntmps160
        go_wp2_with fail
        go_region_with (go_at_call 160; (refine (IH.out _ _ (by first | omega | (simp; omega) | (rw [IntKind.wrap_u64]; omega))).mono ?_); rintro e x5 ⟨rfl, hb5⟩; (try have hc5 := cell_keep1 hb5))
        all_goals go_wp2
        all_goals go_ret
        all_goals refine ⟨by rw [← HV.out]; rfl, ?_⟩
        all_goals first
          | exact below_1 hb5
          | exact below_0 hb5
          | exact (below_0 hb5).alloc (below_0 hb5).size _
end Go.Proofs.Ytobanhbjkomieaa.BP
