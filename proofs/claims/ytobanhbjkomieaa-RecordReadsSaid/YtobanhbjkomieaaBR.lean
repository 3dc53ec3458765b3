import Derived.Test.YtobanhbjkomieaaBP
import Derived.Deep.RegionWith
namespace Go.Proofs.Ytobanhbjkomieaa.BP
open Go.RowKit Go.Proofs.Ytobanhbjkomieaa.PAll Go.Proofs.YtobanhbjkomieaaW.PrintWords Go.Proofs.YtobanhbjkomieaaW.PrintLast Go.Proofs.YtobanhbjkomieaaW.PrintMore
theorem conv_at (W : World) (b : Nat) (X : Int) (h : W.cell? ⟨b, 0, none⟩ = some (.int .u8 X)) : (convert 178 9 (.slice (some ⟨b, 0, none⟩) 1 1)).run Try.prog W = .ok (.string (strOfNums [X])) W := by
  have := string_of_reads (P := Try.prog) (w := W) (src := 178) (dst := 9) (e := 5) (A := some ⟨b, 0, none⟩) (n := 1) (c := 1) (xs := [X]) Try.underlying178 Try.underlying5 Try.underlying9
    ⟨rfl, by decide, fun _ => ⟨_, rfl, fun j hj => by
      obtain rfl : j = 0 := by omega
      exact h⟩⟩
  exact this
theorem cell_keep1 {w x : World} {v : Value} {t : TypeId} {m : Nat} (h : Below ((w.alloc (.cells #[v] t)).drewN m).heap.size ((w.alloc (.cells #[v] t)).drewN m) x) : x.cell? ⟨w.heap.size, 0, none⟩ = some v := by
  rw [h.cell (p := ⟨w.heap.size, 0, none⟩) (by simp)]
  simp
theorem below_1 {w x : World} {o : Obj} {m : Nat} (h : Below ((w.alloc o).drewN m).heap.size ((w.alloc o).drewN m) x) : Below w.heap.size w x :=
  (pw_below_drewN ((Below.refl _ _).alloc (Nat.le_refl _) _) _).trans (h.mono (by simp))
theorem below_0 {w x : World} {m : Nat} (h : Below (w.drewN m).heap.size (w.drewN m) x) : Below w.heap.size w x :=
  (pw_below_drewN (Below.refl _ _) _).trans h
set_option maxHeartbeats 8000000 in
set_option maxRecDepth 100000 in
theorem refVarint_any : ∀ (k n : Nat) (w : World), n < 128 ^ (k + 1) → n < 18446744073709551616 →
    Calls Try.prog 160 #[.int .u64 n] w fun e w' => e = .returned (.string (strOfNums (vint n))) ∧ Below w.heap.size w w'
  | k, n, w, hk, hn => by
    by_cases hlt : n < 128
    · have hs : strOfNums (vint n) = strOfNums [(n : Int)] := by rw [vint_small hlt]
      have HS := Lib.hid hs
      clear hs
      have hc := conv_at (w.alloc (.cells #[.int .u8 (n : Int)] 5)) w.heap.size n (by simp)
      go_enter Try.func160, Try.ntmps160
      go_wp2
      go_ret
      refine ⟨by rw [HS.out]; rfl, (Below.refl _ _).alloc (Nat.le_refl _) _⟩
    · cases k with
      | zero => exact absurd hk (by simpa using hlt)
      | succ k =>
        have ih : ∀ (W : World) (a : Int), a = ((n / 128 : Nat) : Int) → Calls Try.prog 160 #[.int .u64 a] W fun e w' => e = .returned (.string (strOfNums (vint (n / 128)))) ∧ Below W.heap.size W w' := by
          rintro W a rfl
          exact refVarint_any k (n / 128) W (by rw [Nat.pow_succ] at hk; exact Nat.div_lt_of_lt_mul (by rw [Nat.mul_comm]; exact hk)) (by omega)
        have IH := Lib.hid ih
        clear ih
        have hc := conv_at
        have hle := vint_len10 (n := n / 128) (by omega)
        have hsum : ∀ X : Int, (strOfNums [X]).size + (strOfNums (vint (n / 128))).size ≤ 9223372036854775807 := fun X => by rw [strOfNums_size, strOfNums_size]; simp; omega
        have hsum2 : ∀ X : Int, (9223372036854775807 < (strOfNums [X]).size + (strOfNums (vint (n / 128))).size) = False := fun X => eq_false (by have := hsum X; omega)
        have hv : strOfNums [IntKind.u8.wrap (IntKind.u8.wrap ((n : Int).tmod 128) + 128)] ++ strOfNums (vint (n / 128)) = strOfNums (vint n) := by
          rw [vint_big hlt]
          have e1 : (n : Int).tmod 128 = ((n % 128 : Nat) : Int) := by rw [Int.tmod_eq_emod_of_nonneg (by omega)]; omega
          have e2 : IntKind.u8.wrap (IntKind.u8.wrap ((n : Int).tmod 128) + 128) = ((n % 128 : Nat) : Int) + 128 := by
            rw [e1, IntKind.wrap_u8, IntKind.wrap_u8]; omega
          rw [e2]
          apply WideShapes.bytes_inj
          simp [strOfNums]
        have HV := Lib.hid hv
        clear hv
        generalize vint (n / 128) = V at *
        go_enter Try.func160, Try.ntmps160
        go_wp2_with fail
        go_region_with (go_at_call 160; (refine (IH.out _ _ (by first | omega | (simp; omega) | (rw [IntKind.wrap_u64]; omega))).mono ?_); rintro e x5 ⟨rfl, hb5⟩; (try have hc5 := cell_keep1 hb5))
        all_goals go_wp2
        all_goals go_ret
        all_goals refine ⟨by rw [← HV.out]; rfl, ?_⟩
        all_goals first
          | exact below_1 hb5
          | exact below_0 hb5
          | exact (below_0 hb5).alloc (below_0 hb5).size _
end Go.Proofs.Ytobanhbjkomieaa.BP
