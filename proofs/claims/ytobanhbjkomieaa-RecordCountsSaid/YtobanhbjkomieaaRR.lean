import Derived.Test.YtobanhbjkomieaaRP
namespace Go.Proofs.Ytobanhbjkomieaa.RP
open Go.RowKit Go.Proofs.Ytobanhbjkomieaa.PAll Go.Proofs.Ytobanhbjkomieaa.KP Go.Proofs.Ytobanhbjkomieaa.BP Go.Proofs.YtobanhbjkomieaaW.PrintWords Go.Proofs.YtobanhbjkomieaaW.PrintLast Go.Proofs.YtobanhbjkomieaaW.PrintMore
set_option linter.unusedSimpArgs false
set_option linter.unusedVariables false
/-! ### long, RecordLive -/
def longB : Nat → List En → Bool
  | n, [] => decide (6000 ≤ n)
  | n, x :: l => if n < 6000 then longB (n + 20 + min 6000 x.f0.size + min 6000 x.f1.size) l else true
theorem longB_no : ∀ {l : List En} {n : Nat}, longB n l = false → n + 20 * l.length < 6000 ∧ ∀ x ∈ l, x.f0.size < 6000 ∧ x.f1.size < 6000
  | [], n, h => by simp [longB] at h; simp; omega
  | x :: l, n, h => by
    unfold longB at h
    split at h
    · obtain ⟨h1, h2⟩ := longB_no h
      refine ⟨by simp only [List.length_cons]; omega, fun y hy => ?_⟩
      rcases List.mem_cons.1 hy with rfl | hy
      · omega
      · exact h2 y hy
    · cases h
theorem mn_nat (b : Nat) : mn 6000 (b : Int) = ((min 6000 b : Nat) : Int) := by unfold mn; split <;> omega
theorem long_l0 (l : List En) (hl : l.length ≤ maxLen) : ∀ (d i n : Nat), i + d = l.length → n ≤ 18020 →
    Ev (fun k => batonlaw18_long.l0 k l (n : Int) (i : Int)) (longB n (l.drop i))
  | 0, i, n, h, hn => by
    refine Ev.step (f := fun _ => some (decide (6000 ≤ n))) (fun k => ?_) ?_
    · simp only [batonlaw18_long.l0]
      rw [if_neg (by omega)]
      congr 2
      rw [eq_iff_iff]; omega
    · rw [List.drop_eq_nil_of_le (by omega)]
      exact Ev.now _
  | d + 1, i, n, h, hn => by
    have hlt : i < l.length := by omega
    unfold maxLen at hl
    have hd : l.drop i = l[i] :: l.drop (i + 1) := List.drop_eq_getElem_cons hlt
    rw [hd, longB]
    by_cases c : n < 6000
    · rw [if_pos c]
      refine Ev.step (f := fun k => batonlaw18_long.l0 k l ((n + 20 + min 6000 l[i].f0.size + min 6000 l[i].f1.size : Nat) : Int) ((i + 1 : Nat) : Int)) (fun k => ?_) (long_l0 l (by unfold maxLen; omega) d (i + 1) (n + 20 + min 6000 l[i].f0.size + min 6000 l[i].f1.size) (by omega) (by omega))
      simp only [batonlaw18_long.l0]
      rw [if_pos (by omega), if_pos (by omega), if_pos (by omega), rd_get hlt, mn_nat, mn_nat]
      congr 1
      · unfold wrap64; omega
      · unfold wrap64; omega
    · rw [if_neg c]
      refine Ev.step (f := fun _ => some true) (fun k => ?_) (Ev.now _)
      simp only [batonlaw18_long.l0]
      rw [if_pos (by omega), if_neg (by omega), decide_eq_true (by omega)]
theorem long_any (A : Option Addr) (c : Nat) (l : List En) (w : World) (hc : l.length ≤ c) (hr : Kd.C k62 w A l.length l) (hl : l.length ≤ maxLen) :
    Calls Try.prog 90 #[.slice A l.length c] w fun e w' => e = .returned (.bool (longB 0 l)) ∧ Below w.heap.size w w' := by
  have h := long_l0 l hl l.length 0 0 (by omega) (by omega)
  exact ev_calls (g := fun k => batonlaw18_long.f k l) h (fun k h => batonlaw18_long.calls k A c l _ w hr hc h)
set_option maxHeartbeats 1000000 in
set_option maxRecDepth 100000 in
theorem RecordLive_walk (A : Option Addr) (c : Nat) (l : List En) (t : ByteArray) (w : World) (hc : l.length ≤ c) (hr : Kd.C k62 w A l.length l) (ok : (∀ x ∈ l, OP.okEn x) ∧ l.length ≤ maxLen) (ht : t.size ≤ 140737488351232) :
    Calls Try.prog 17 #[.slice A l.length c, .string t] w fun e w' => e = .returned (.bool true) ∧ Below w.heap.size w w' := by
  have hlo := fun W h => long_any A c l W hc h ok.2
  have HC := Lib.hid hr
  cases hb : longB 0 l
  · obtain ⟨h1, h2⟩ := longB_no hb
    have hs : ∀ x ∈ l, x.f0.size ≤ 140737488351232 ∧ x.f1.size ≤ 140737488351232 := fun x hx => by have := h2 x hx; omega
    have hl1 := fun W h => live_any A c l t W hc h (by omega) hs
    have hl2 := fun W h => refLive_any A c l t W hc h (by omega) hs
    generalize liveL l t.data.toList = n at *
    rw [hb] at hlo
    have HL := Lib.hid hlo
    have H1 := Lib.hid hl1
    have H2 := Lib.hid hl2
    clear hlo hl1 hl2 hs h2 hb ok hr
    by_cases h0 : 1000 < t.size
    · go_enter Try.func17, Try.ntmps17
      go_wp2_with fail
      refine (HL.out _ HC.out).mono ?_
      rintro e w1 ⟨rfl, hb1⟩
      go_wp2_with fail
      refine (awake_any _).mono ?_
      rintro e w2 ⟨rfl, hb2⟩
      go_wp2
      go_ret
      exact ⟨rfl, below_next0 hb1 hb2⟩
    · go_enter Try.func17, Try.ntmps17
      go_wp2_with fail
      refine (HL.out _ HC.out).mono ?_
      rintro e w1 ⟨rfl, hb1⟩
      go_wp2_with fail
      refine (H1.out _ (Kd.C_below HC.out hb1)).mono ?_
      rintro e w2 ⟨rfl, hb2⟩
      have k2 := below_next0 hb1 hb2
      go_wp2_with fail
      refine (H2.out _ (Kd.C_below HC.out k2)).mono ?_
      rintro e w3 ⟨rfl, hb3⟩
      have k3 := below_next0 k2 hb3
      go_wp2_with fail
      refine (awake_any _).mono ?_
      rintro e w4 ⟨rfl, hb4⟩
      go_wp2
      go_ret
      exact ⟨rfl, below_next0 k3 hb4⟩
  · rw [hb] at hlo
    have HL := Lib.hid hlo
    clear hlo hb ok hr
    go_enter Try.func17, Try.ntmps17
    go_wp2_with fail
    refine (HL.out _ HC.out).mono ?_
    rintro e w1 ⟨rfl, hb1⟩
    go_wp2_with fail
    refine (awake_any _).mono ?_
    rintro e w2 ⟨rfl, hb2⟩
    go_wp2
    go_ret
    exact ⟨rfl, below_next0 hb1 hb2⟩
end Go.Proofs.Ytobanhbjkomieaa.RP
