import Derived.Test.YtobanhbjkomieaaTVSb
namespace Go.Proofs.Ytobanhbjkomieaa.TA
open Go Go.RowKit Go.Proofs.Ytobanhbjkomieaa.KP Go.Proofs.YtobanhbjkomieaaW.PrintWords Go.Proofs.YtobanhbjkomieaaW.PrintLast Go.Proofs.YtobanhbjkomieaaW.PrintMore
open Go.Proofs.Ytobanhbjkomieaa.RP (wTake wSkip wOne wpAnyH_cast below_next0)
set_option linter.unusedSimpArgs false
set_option linter.unusedVariables false
attribute [local go_sem high] EQ.eqA62 EQ.eqA60
theorem tl_beq (a b : ByteArray) : (a.toList == b.toList) = decide (a = b) := by
  by_cases h : a = b
  · rw [h]; simp
  · rw [beq_ne h]; simp [h]
def eqEnt (x y : Ent) : Bool := x.key.toList == y.key.toList && (x.val.toList == y.val.toList && (x.made == y.made && (x.mod == y.mod)))
def eqEvt (x y : Evt) : Bool := x.rev == y.rev && (x.del == y.del && (x.key.toList == y.key.toList && (x.val.toList == y.val.toList)))
theorem eqEnt_iff (x y : Ent) : eqEnt x y = decide (x = y) := by
  obtain ⟨a, b, c, d⟩ := x
  obtain ⟨a', b', c', d'⟩ := y
  simp only [eqEnt, tl_beq, Ent.mk.injEq]
  by_cases h1 : a = a' <;> by_cases h2 : b = b' <;> by_cases h3 : c = c' <;> by_cases h4 : d = d' <;> simp [h1, h2, h3, h4]
theorem eqEvt_iff (x y : Evt) : eqEvt x y = decide (x = y) := by
  obtain ⟨a, b, c, d⟩ := x
  obtain ⟨a', b', c', d'⟩ := y
  simp only [eqEvt, tl_beq, Evt.mk.injEq]
  by_cases h1 : a = a' <;> by_cases h2 : b = b' <;> by_cases h3 : c = c' <;> by_cases h4 : d = d' <;> simp [h1, h2, h3, h4]
theorem list_eq {α : Type} {l r : List α} (hn : l.length = r.length) (h : ∀ j (h1 : j < l.length) (h2 : j < r.length), l[j] = r[j]) : l = r := List.ext_getElem hn (fun j h1 h2 => h j h1 h2)
set_option maxHeartbeats 2000000 in
set_option maxRecDepth 100000 in
theorem equalEnt_any (A : Option Addr) (ca : Nat) (l : List Ent) (B : Option Addr) (cb : Nat) (r : List Ent) (w : World) (hca : l.length ≤ ca) (hcb : r.length ≤ cb) (hA : Kd.C kEnt w A l.length l) (hB : Kd.C kEnt w B r.length r) (hl : l.length ≤ 1000000000) (hr : r.length ≤ 1000000000) :
    Calls Try.prog 128 #[.slice A l.length ca, .slice B r.length cb] w fun e w' => e = .returned (.bool (decide (l = r))) ∧ Below w.heap.size w w' := by
  have HA := Lib.hid hA
  have HB := Lib.hid hB
  clear hA hB
  by_cases hn : l.length = r.length
  · have n1 : ((l.length : Int) == (r.length : Int)) = true := beq_iff_eq.2 (by rw [hn])
    have n2 : ((l.length : Int) != (r.length : Int)) = false := by rw [bne, n1]; rfl
    go_enter Try.func128, Try.ntmps128
    go_wp2_with fail
    go_loopw [13] (fun i wr => ∃ k : Nat, k ≤ l.length ∧ i = .int .i64 k ∧ Below w.heap.size w wr ∧ Hid (∀ j (h : j < k) (h1 : j < l.length) (h2 : j < r.length), l[j] = r[j])) (fun i _ => l.length - (intOf i).toNat)
    case atStart => exact ⟨0, by omega, rfl, Below.refl _ _, fun j h => absurd h (by omega)⟩
    case round =>
      obtain ⟨k, hk, rfl, hbw, hno⟩ := hrel
      by_cases hlt : k < l.length
      · have hlt2 : k < r.length := by omega
        obtain ⟨ad, rfl, f0, f1, f2, f3⟩ := at_Ent (Kd.C_below HA.out hbw) hlt
        obtain ⟨ad2, rfl, g0, g1, g2, g3⟩ := at_Ent (Kd.C_below HB.out hbw) hlt2
        have i0 : (0 : Int) ≤ (k : Int) := by omega
        have i1 : (k : Int) < (l.length : Int) := by omega
        have i2 : (k : Int) < (r.length : Int) := by omega
        have HQ := Lib.hid (eqEnt_iff l[k] r[k])
        cases hq : eqEnt l[k] r[k]
        · have E := HQ.out
          rw [hq] at E
          have E' := Lib.hid E
          clear E
          simp only [eqEnt] at hq
          go_wp2_with fail
          refine wp_region_noPanic ?_
          refine wp_region_held_drew (S := fun W => W.cell? (ad.add (k * 4)) = some (.string l[k].key) ∧ W.cell? ⟨(ad.add (k * 4)).block, (ad.add (k * 4)).off + 1, none⟩ = some (.string l[k].val) ∧ W.cell? ⟨(ad.add (k * 4)).block, (ad.add (k * 4)).off + 2, none⟩ = some (.int .i64 l[k].made) ∧ W.cell? ⟨(ad.add (k * 4)).block, (ad.add (k * 4)).off + 3, none⟩ = some (.int .i64 l[k].mod) ∧ W.cell? (ad2.add (k * 4)) = some (.string r[k].key) ∧ W.cell? ⟨(ad2.add (k * 4)).block, (ad2.add (k * 4)).off + 1, none⟩ = some (.string r[k].val) ∧ W.cell? ⟨(ad2.add (k * 4)).block, (ad2.add (k * 4)).off + 2, none⟩ = some (.int .i64 r[k].made) ∧ W.cell? ⟨(ad2.add (k * 4)).block, (ad2.add (k * 4)).off + 3, none⟩ = some (.int .i64 r[k].mod)) (by kernel_rfl) (⟨f0, f1, f2, f3, g0, g1, g2, g3⟩) (fun hHeld => ?_)
          refine wTake 0 ?_
          refine wTake 1 ?_
          refine wTake 2 ?_
          refine wTake 3 ?_
          refine wTake 4 ?_
          refine wTake 5 ?_
          refine wTake 6 ?_
          refine wTake 7 ?_
          refine wTake 8 ?_
          try simp only [Act.put, List.setIfInBounds_toArray, List.set_cons_zero, List.set_cons_succ]
          refine wpAnyH_done (by kernel_rfl) ?_ _
          refine NoPanic.normal ?_
          go_wp2
          go_ret
          exact ⟨by (have : ¬ l = r := fun e => (of_decide_eq_false E'.out.symm) (by subst e; rfl); simp [this]), below_drew hbw⟩
        · have E := HQ.out
          rw [hq] at E
          have E' := Lib.hid E
          clear E
          simp only [eqEnt] at hq
          go_wp2_with fail
          refine wp_region_noPanic ?_
          refine wp_region_held_drew (S := fun W => W.cell? (ad.add (k * 4)) = some (.string l[k].key) ∧ W.cell? ⟨(ad.add (k * 4)).block, (ad.add (k * 4)).off + 1, none⟩ = some (.string l[k].val) ∧ W.cell? ⟨(ad.add (k * 4)).block, (ad.add (k * 4)).off + 2, none⟩ = some (.int .i64 l[k].made) ∧ W.cell? ⟨(ad.add (k * 4)).block, (ad.add (k * 4)).off + 3, none⟩ = some (.int .i64 l[k].mod) ∧ W.cell? (ad2.add (k * 4)) = some (.string r[k].key) ∧ W.cell? ⟨(ad2.add (k * 4)).block, (ad2.add (k * 4)).off + 1, none⟩ = some (.string r[k].val) ∧ W.cell? ⟨(ad2.add (k * 4)).block, (ad2.add (k * 4)).off + 2, none⟩ = some (.int .i64 r[k].made) ∧ W.cell? ⟨(ad2.add (k * 4)).block, (ad2.add (k * 4)).off + 3, none⟩ = some (.int .i64 r[k].mod)) (by kernel_rfl) (⟨f0, f1, f2, f3, g0, g1, g2, g3⟩) (fun hHeld => ?_)
          refine wTake 0 ?_
          refine wTake 1 ?_
          refine wTake 2 ?_
          refine wTake 3 ?_
          refine wTake 4 ?_
          refine wTake 5 ?_
          refine wTake 6 ?_
          refine wTake 7 ?_
          refine wTake 8 ?_
          try simp only [Act.put, List.setIfInBounds_toArray, List.set_cons_zero, List.set_cons_succ]
          refine wpAnyH_done (by kernel_rfl) ?_ _
          refine NoPanic.normal ?_
          go_wp2
          go_roundw
          case rel => exact ⟨k + 1, by omega, by go_num, below_drew hbw, fun j h h1 h2 => by rcases Nat.lt_or_ge j k with h3 | h3; exact hno.out j h3 h1 h2; obtain rfl : j = k := (by omega); exact of_decide_eq_true E'.out.symm⟩
          case measure => simp [intOf]; omega
      · go_wp2
        go_ret
        exact ⟨by rw [decide_eq_true (list_eq hn (fun j h1 h2 => hno.out j (by omega) h1 h2))]; rfl, hbw⟩
  · have n1 : ((l.length : Int) == (r.length : Int)) = false := beq_eq_false_iff_ne.2 (by omega)
    have n2 : ((l.length : Int) != (r.length : Int)) = true := by rw [bne, n1]; rfl
    go_enter Try.func128, Try.ntmps128
    go_wp2
    go_ret
    exact ⟨by (have : ¬ l = r := fun e => hn (by rw [e]); simp [this]), Below.refl _ _⟩
set_option maxHeartbeats 2000000 in
set_option maxRecDepth 100000 in
theorem equalEvt_any (A : Option Addr) (ca : Nat) (l : List Evt) (B : Option Addr) (cb : Nat) (r : List Evt) (w : World) (hca : l.length ≤ ca) (hcb : r.length ≤ cb) (hA : Kd.C kEvt w A l.length l) (hB : Kd.C kEvt w B r.length r) (hl : l.length ≤ 1000000000) (hr : r.length ≤ 1000000000) :
    Calls Try.prog 129 #[.slice A l.length ca, .slice B r.length cb] w fun e w' => e = .returned (.bool (decide (l = r))) ∧ Below w.heap.size w w' := by
  have HA := Lib.hid hA
  have HB := Lib.hid hB
  clear hA hB
  by_cases hn : l.length = r.length
  · have n1 : ((l.length : Int) == (r.length : Int)) = true := beq_iff_eq.2 (by rw [hn])
    have n2 : ((l.length : Int) != (r.length : Int)) = false := by rw [bne, n1]; rfl
    go_enter Try.func129, Try.ntmps129
    go_wp2_with fail
    go_loopw [13] (fun i wr => ∃ k : Nat, k ≤ l.length ∧ i = .int .i64 k ∧ Below w.heap.size w wr ∧ Hid (∀ j (h : j < k) (h1 : j < l.length) (h2 : j < r.length), l[j] = r[j])) (fun i _ => l.length - (intOf i).toNat)
    case atStart => exact ⟨0, by omega, rfl, Below.refl _ _, fun j h => absurd h (by omega)⟩
    case round =>
      obtain ⟨k, hk, rfl, hbw, hno⟩ := hrel
      by_cases hlt : k < l.length
      · have hlt2 : k < r.length := by omega
        obtain ⟨ad, rfl, f0, f1, f2, f3⟩ := at_Evt (Kd.C_below HA.out hbw) hlt
        obtain ⟨ad2, rfl, g0, g1, g2, g3⟩ := at_Evt (Kd.C_below HB.out hbw) hlt2
        have i0 : (0 : Int) ≤ (k : Int) := by omega
        have i1 : (k : Int) < (l.length : Int) := by omega
        have i2 : (k : Int) < (r.length : Int) := by omega
        have HQ := Lib.hid (eqEvt_iff l[k] r[k])
        cases hq : eqEvt l[k] r[k]
        · have E := HQ.out
          rw [hq] at E
          have E' := Lib.hid E
          clear E
          simp only [eqEvt] at hq
          go_wp2_with fail
          refine wp_region_noPanic ?_
          refine wp_region_held_drew (S := fun W => W.cell? (ad.add (k * 4)) = some (.int .i64 l[k].rev) ∧ W.cell? ⟨(ad.add (k * 4)).block, (ad.add (k * 4)).off + 1, none⟩ = some (.bool l[k].del) ∧ W.cell? ⟨(ad.add (k * 4)).block, (ad.add (k * 4)).off + 2, none⟩ = some (.string l[k].key) ∧ W.cell? ⟨(ad.add (k * 4)).block, (ad.add (k * 4)).off + 3, none⟩ = some (.string l[k].val) ∧ W.cell? (ad2.add (k * 4)) = some (.int .i64 r[k].rev) ∧ W.cell? ⟨(ad2.add (k * 4)).block, (ad2.add (k * 4)).off + 1, none⟩ = some (.bool r[k].del) ∧ W.cell? ⟨(ad2.add (k * 4)).block, (ad2.add (k * 4)).off + 2, none⟩ = some (.string r[k].key) ∧ W.cell? ⟨(ad2.add (k * 4)).block, (ad2.add (k * 4)).off + 3, none⟩ = some (.string r[k].val)) (by kernel_rfl) (⟨f0, f1, f2, f3, g0, g1, g2, g3⟩) (fun hHeld => ?_)
          refine wTake 0 ?_
          refine wTake 1 ?_
          refine wTake 2 ?_
          refine wTake 3 ?_
          refine wTake 4 ?_
          refine wTake 5 ?_
          refine wTake 6 ?_
          refine wTake 7 ?_
          refine wTake 8 ?_
          try simp only [Act.put, List.setIfInBounds_toArray, List.set_cons_zero, List.set_cons_succ]
          refine wpAnyH_done (by kernel_rfl) ?_ _
          refine NoPanic.normal ?_
          go_wp2
          go_ret
          exact ⟨by (have : ¬ l = r := fun e => (of_decide_eq_false E'.out.symm) (by subst e; rfl); simp [this]), below_drew hbw⟩
        · have E := HQ.out
          rw [hq] at E
          have E' := Lib.hid E
          clear E
          simp only [eqEvt] at hq
          go_wp2_with fail
          refine wp_region_noPanic ?_
          refine wp_region_held_drew (S := fun W => W.cell? (ad.add (k * 4)) = some (.int .i64 l[k].rev) ∧ W.cell? ⟨(ad.add (k * 4)).block, (ad.add (k * 4)).off + 1, none⟩ = some (.bool l[k].del) ∧ W.cell? ⟨(ad.add (k * 4)).block, (ad.add (k * 4)).off + 2, none⟩ = some (.string l[k].key) ∧ W.cell? ⟨(ad.add (k * 4)).block, (ad.add (k * 4)).off + 3, none⟩ = some (.string l[k].val) ∧ W.cell? (ad2.add (k * 4)) = some (.int .i64 r[k].rev) ∧ W.cell? ⟨(ad2.add (k * 4)).block, (ad2.add (k * 4)).off + 1, none⟩ = some (.bool r[k].del) ∧ W.cell? ⟨(ad2.add (k * 4)).block, (ad2.add (k * 4)).off + 2, none⟩ = some (.string r[k].key) ∧ W.cell? ⟨(ad2.add (k * 4)).block, (ad2.add (k * 4)).off + 3, none⟩ = some (.string r[k].val)) (by kernel_rfl) (⟨f0, f1, f2, f3, g0, g1, g2, g3⟩) (fun hHeld => ?_)
          refine wTake 0 ?_
          refine wTake 1 ?_
          refine wTake 2 ?_
          refine wTake 3 ?_
          refine wTake 4 ?_
          refine wTake 5 ?_
          refine wTake 6 ?_
          refine wTake 7 ?_
          refine wTake 8 ?_
          try simp only [Act.put, List.setIfInBounds_toArray, List.set_cons_zero, List.set_cons_succ]
          refine wpAnyH_done (by kernel_rfl) ?_ _
          refine NoPanic.normal ?_
          go_wp2
          go_roundw
          case rel => exact ⟨k + 1, by omega, by go_num, below_drew hbw, fun j h h1 h2 => by rcases Nat.lt_or_ge j k with h3 | h3; exact hno.out j h3 h1 h2; obtain rfl : j = k := (by omega); exact of_decide_eq_true E'.out.symm⟩
          case measure => simp [intOf]; omega
      · go_wp2
        go_ret
        exact ⟨by rw [decide_eq_true (list_eq hn (fun j h1 h2 => hno.out j (by omega) h1 h2))]; rfl, hbw⟩
  · have n1 : ((l.length : Int) == (r.length : Int)) = false := beq_eq_false_iff_ne.2 (by omega)
    have n2 : ((l.length : Int) != (r.length : Int)) = true := by rw [bne, n1]; rfl
    go_enter Try.func129, Try.ntmps129
    go_wp2
    go_ret
    exact ⟨by (have : ¬ l = r := fun e => hn (by rw [e]); simp [this]), Below.refl _ _⟩
end Go.Proofs.Ytobanhbjkomieaa.TA
