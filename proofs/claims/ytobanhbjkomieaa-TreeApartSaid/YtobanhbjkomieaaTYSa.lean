import Derived.Test.YtobanhbjkomieaaPTrx3Sa
import Derived.Test.YtobanhbjkomieaaTTSa
import Derived.Test.YtobanhbjkomieaaTPSa
import Derived.Test.YtobanhbjkomieaaRZSa
import Derived.Test.YtobanhbjkomieaaTSSa
section
namespace Go.Proofs.Ytobanhbjkomieaa.PTr
open Go.RowKit Go.Proofs.YtobanhbjkomieaaW.PrintWords Go.Proofs.YtobanhbjkomieaaW.PrintLast Go.Proofs.YtobanhbjkomieaaW.PrintMore
attribute [local go_sem] max2_int min2_int max_two min_two max_three min_three max_four min_four   -- for this text's walks alone
set_option linter.unusedVariables false
set_option linter.unusedSimpArgs false
attribute [local go_sem high] eqA60 eqA62
def batonref12_Entries.l0 : Nat → List (S62) → List (S62) → Int → Option (Bool)
 | 0, _, _, _ => none
 | k + 1, x0, x1, x5 => if x5 < (x0.length : Int) then (if 0 ≤ x5 then (if x5 < (x1.length : Int) then (if (!((((rd_T62 x0 x5).f0).toList) == (((rd_T62 x1 x5).f0).toList)) || (!((((rd_T62 x0 x5).f1).toList) == (((rd_T62 x1 x5).f1).toList)) || (!(((rd_T62 x0 x5).f2) == ((rd_T62 x1 x5).f2)) || (!(((rd_T62 x0 x5).f3) == ((rd_T62 x1 x5).f3)))))) = true then (some false) else (batonref12_Entries.l0 k x0 x1 (wrap64 (x5 + 1)))) else (none)) else (none)) else (some true)
def batonref12_Entries.f (k : Nat) (l0 : List (S62)) (l1 : List (S62)) : Option (Bool) := if (l0.length : Int) = (l1.length : Int) then (batonref12_Entries.l0 k l0 l1 0) else (some false)
set_option maxHeartbeats 8000000 in
set_option maxRecDepth 100000 in
theorem batonref12_Entries.calls (k : Nat) (A0 : Option Addr) (c0 : Nat) (l0 : List (S62)) (A1 : Option Addr) (c1 : Nat) (l1 : List (S62)) (r : Bool) (w : World) (hr0 : Kd.C k62 w A0 l0.length l0) (hc0 : l0.length ≤ c0) (hr1 : Kd.C k62 w A1 l1.length l1) (hc1 : l1.length ≤ c1) (h : batonref12_Entries.f k l0 l1 = some r) :
  Calls Try.prog 45 #[.slice A0 l0.length c0, .slice A1 l1.length c1] w fun e w' => e = .returned (.bool r) ∧ Drawn0 w w' := by
 have hu62 := Try.underlying62
 have HR0 := Aside0.mk hr0
 have ab := Aside0.mk hc0
 clear hr0 hc0
 have HR1 := Aside0.mk hr1
 have ac := Aside0.mk hc1
 clear hr1 hc1
 have H : (if (l0.length : Int) = (l1.length : Int) then (batonref12_Entries.l0 k l0 l1 0) else (some false)) = some r := h
 clear h
 by_cases c3 : (l0.length : Int) = (l1.length : Int)
 ·
  rw [if_pos c3] at H
  have c3b0 : ((l0.length : Int) == (l1.length : Int)) = true := beq_iff_eq.mpr c3
  have c3b1 : ((l0.length : Int) != (l1.length : Int)) = false := bne_eq_false_iff_eq.mpr c3
  have c3b2 : (l0.length == l1.length) = true := by first | simpa using c3 | (simp at c3 ⊢; omega)
  clear c3
  have H' := Aside0.mk H
  clear H
  go_enter Try.func45, Try.ntmps45
  go_wp2
  repeat (go_quiet (fail); try go_wp2)
  go_loopg [5] k (fun kq v5 w' => ∃ (aa : Int), v5 = .int .i64 aa ∧ Aside0 (batonref12_Entries.l0 kq l0 l1 aa = some r) ∧ Aside0 (kq ≤ k) ∧ Drawn0 w w')
  case atStart => exact ⟨(0), (by first | rfl | (simp; done) | (simp [*]; done)), H', ⟨Nat.le_refl _⟩, by repeat (first | exact Drawn0.refl _ | apply Drawn0.step)⟩
  case round =>
   clear H'
   try clear c1
   try clear p2
   try clear c3
   try clear c3b0
   try clear c3b1
   try clear c3b2
   obtain ⟨aa, rfl, HA, HK1, ⟨m1, rfl⟩⟩ := hrel
   cases gk with
   | zero => exact absurd HA.out (by simp [batonref12_Entries.l0])
   | succ k1 =>
    have H := HA.out
    clear HA
    simp only [batonref12_Entries.l0] at H
    by_cases c4 : aa < (l0.length : Int)
    ·
     rw [if_pos c4] at H
     have c4b0 : decide (aa < (l0.length : Int)) = true := decide_eq_true c4
     clear c4
     by_cases c5 : 0 ≤ aa
     ·
      rw [if_pos c5] at H
      have c5b0 : decide (0 ≤ aa) = true := decide_eq_true c5
      clear c5
      by_cases c6 : aa < (l1.length : Int)
      ·
       rw [if_pos c6] at H
       have c6b0 : decide (aa < (l1.length : Int)) = true := decide_eq_true c6
       clear c6
       by_cases c7 : (!((((rd_T62 l0 aa).f0).toList) == (((rd_T62 l1 aa).f0).toList)) || (!((((rd_T62 l0 aa).f1).toList) == (((rd_T62 l1 aa).f1).toList)) || (!(((rd_T62 l0 aa).f2) == ((rd_T62 l1 aa).f2)) || (!(((rd_T62 l0 aa).f3) == ((rd_T62 l1 aa).f3)))))) = true
       ·
        rw [if_pos c7] at H
        have c7b0 : (!((((rd_T62 l0 aa).f0).toList) == (((rd_T62 l1 aa).f0).toList)) || (!((((rd_T62 l0 aa).f1).toList) == (((rd_T62 l1 aa).f1).toList)) || (!(((rd_T62 l0 aa).f2) == ((rd_T62 l1 aa).f2)) || (!(((rd_T62 l0 aa).f3) == ((rd_T62 l1 aa).f3)))))) = true := c7
        clear c7
        obtain rfl := Option.some.inj H
        have p120 : 0 ≤ (aa : Int) := of_decide_eq_true (by first | (with_reducible assumption) | assumption)
        have q120 : aa < (l0.length : Int) := of_decide_eq_true (by first | (with_reducible assumption) | assumption)
        obtain ⟨ad120, e120, ad, ae, af, ag⟩ := at_T62 HR0.out aa p120 q120
        cases e120
        replace p120 := eq_true p120
        replace q120 := eq_true q120
        have p121 : 0 ≤ (aa : Int) := of_decide_eq_true (by first | (with_reducible assumption) | assumption)
        have q121 : aa < (l1.length : Int) := of_decide_eq_true (by first | (with_reducible assumption) | assumption)
        obtain ⟨ad121, e121, ah, ai, aj, ak⟩ := at_T62 HR1.out aa p121 q121
        cases e121
        replace p121 := eq_true p121
        replace q121 := eq_true q121
        go_wp2
        repeat (go_quiet (fail); try go_wp2)
        go_ret
        exact ⟨by first | rfl | (simp; done) | (simp [*]; done), by repeat (first | exact Drawn0.refl _ | apply Drawn0.step)⟩
       ·
        rw [if_neg c7] at H
        have c7b0 : (!((((rd_T62 l0 aa).f0).toList) == (((rd_T62 l1 aa).f0).toList)) || (!((((rd_T62 l0 aa).f1).toList) == (((rd_T62 l1 aa).f1).toList)) || (!(((rd_T62 l0 aa).f2) == ((rd_T62 l1 aa).f2)) || (!(((rd_T62 l0 aa).f3) == ((rd_T62 l1 aa).f3)))))) = false := by simpa using c7
        clear c7
        have H' := Aside0.mk H
        clear H
        have p120 : 0 ≤ (aa : Int) := of_decide_eq_true (by first | (with_reducible assumption) | assumption)
        have q120 : aa < (l0.length : Int) := of_decide_eq_true (by first | (with_reducible assumption) | assumption)
        obtain ⟨ad120, e120, ad, ae, af, ag⟩ := at_T62 HR0.out aa p120 q120
        cases e120
        replace p120 := eq_true p120
        replace q120 := eq_true q120
        have p121 : 0 ≤ (aa : Int) := of_decide_eq_true (by first | (with_reducible assumption) | assumption)
        have q121 : aa < (l1.length : Int) := of_decide_eq_true (by first | (with_reducible assumption) | assumption)
        obtain ⟨ad121, e121, ah, ai, aj, ak⟩ := at_T62 HR1.out aa p121 q121
        cases e121
        replace p121 := eq_true p121
        replace q121 := eq_true q121
        go_wp2
        repeat (go_quiet (fail); try go_wp2)
        go_roundg k1
        case measure => have := HK1.out; omega
        case rel => exact ⟨(wrap64 (aa + 1)), (by first | rfl | (simp; done) | (simp [*]; done)), H', ⟨by have := HK1.out; omega⟩, by repeat (first | exact Drawn0.refl _ | apply Drawn0.step)⟩
      ·
       rw [if_neg c6] at H
       exact absurd H (by simp)
     ·
      rw [if_neg c5] at H
      exact absurd H (by simp)
    ·
     rw [if_neg c4] at H
     have c4b0 : decide (aa < (l0.length : Int)) = false := decide_eq_false c4
     clear c4
     obtain rfl := Option.some.inj H
     go_wp2
     repeat (go_quiet (fail); try go_wp2)
     go_ret
     exact ⟨by first | rfl | (simp; done) | (simp [*]; done), by repeat (first | exact Drawn0.refl _ | apply Drawn0.step)⟩
 ·
  rw [if_neg c3] at H
  have c3b0 : ((l0.length : Int) == (l1.length : Int)) = false := beq_eq_false_iff_ne.mpr c3
  have c3b1 : ((l0.length : Int) != (l1.length : Int)) = true := bne_iff_ne.mpr c3
  have c3b2 : (l0.length == l1.length) = false := by first | simpa using c3 | (simp at c3 ⊢; omega)
  obtain rfl := Option.some.inj H
  go_enter Try.func45, Try.ntmps45
  go_wp2
  repeat (go_quiet (fail); try go_wp2)
  go_ret
  exact ⟨by first | rfl | (simp; done) | (simp [*]; done), by repeat (first | exact Drawn0.refl _ | apply Drawn0.step)⟩
def batonref12_Events.l0 : Nat → List (S60) → List (S60) → Int → Option (Bool)
 | 0, _, _, _ => none
 | k + 1, x0, x1, x5 => if x5 < (x0.length : Int) then (if 0 ≤ x5 then (if x5 < (x1.length : Int) then (if (!(((rd_T60 x0 x5).f0) == ((rd_T60 x1 x5).f0)) || (!(((rd_T60 x0 x5).f1) == ((rd_T60 x1 x5).f1)) || (!((((rd_T60 x0 x5).f2).toList) == (((rd_T60 x1 x5).f2).toList)) || (!((((rd_T60 x0 x5).f3).toList) == (((rd_T60 x1 x5).f3).toList)))))) = true then (some false) else (batonref12_Events.l0 k x0 x1 (wrap64 (x5 + 1)))) else (none)) else (none)) else (some true)
def batonref12_Events.f (k : Nat) (l0 : List (S60)) (l1 : List (S60)) : Option (Bool) := if (l0.length : Int) = (l1.length : Int) then (batonref12_Events.l0 k l0 l1 0) else (some false)
set_option maxHeartbeats 8000000 in
set_option maxRecDepth 100000 in
theorem batonref12_Events.calls (k : Nat) (A0 : Option Addr) (c0 : Nat) (l0 : List (S60)) (A1 : Option Addr) (c1 : Nat) (l1 : List (S60)) (r : Bool) (w : World) (hr0 : Kd.C k60 w A0 l0.length l0) (hc0 : l0.length ≤ c0) (hr1 : Kd.C k60 w A1 l1.length l1) (hc1 : l1.length ≤ c1) (h : batonref12_Events.f k l0 l1 = some r) :
  Calls Try.prog 55 #[.slice A0 l0.length c0, .slice A1 l1.length c1] w fun e w' => e = .returned (.bool r) ∧ Drawn0 w w' := by
 have hu60 := Try.underlying60
 have HR0 := Aside0.mk hr0
 have ab := Aside0.mk hc0
 clear hr0 hc0
 have HR1 := Aside0.mk hr1
 have ac := Aside0.mk hc1
 clear hr1 hc1
 have H : (if (l0.length : Int) = (l1.length : Int) then (batonref12_Events.l0 k l0 l1 0) else (some false)) = some r := h
 clear h
 by_cases c3 : (l0.length : Int) = (l1.length : Int)
 ·
  rw [if_pos c3] at H
  have c3b0 : ((l0.length : Int) == (l1.length : Int)) = true := beq_iff_eq.mpr c3
  have c3b1 : ((l0.length : Int) != (l1.length : Int)) = false := bne_eq_false_iff_eq.mpr c3
  have c3b2 : (l0.length == l1.length) = true := by first | simpa using c3 | (simp at c3 ⊢; omega)
  clear c3
  have H' := Aside0.mk H
  clear H
  go_enter Try.func55, Try.ntmps55
  go_wp2
  repeat (go_quiet (fail); try go_wp2)
  go_loopg [5] k (fun kq v5 w' => ∃ (aa : Int), v5 = .int .i64 aa ∧ Aside0 (batonref12_Events.l0 kq l0 l1 aa = some r) ∧ Aside0 (kq ≤ k) ∧ Drawn0 w w')
  case atStart => exact ⟨(0), (by first | rfl | (simp; done) | (simp [*]; done)), H', ⟨Nat.le_refl _⟩, by repeat (first | exact Drawn0.refl _ | apply Drawn0.step)⟩
  case round =>
   clear H'
   try clear c1
   try clear p2
   try clear c3
   try clear c3b0
   try clear c3b1
   try clear c3b2
   obtain ⟨aa, rfl, HA, HK1, ⟨m1, rfl⟩⟩ := hrel
   cases gk with
   | zero => exact absurd HA.out (by simp [batonref12_Events.l0])
   | succ k1 =>
    have H := HA.out
    clear HA
    simp only [batonref12_Events.l0] at H
    by_cases c4 : aa < (l0.length : Int)
    ·
     rw [if_pos c4] at H
     have c4b0 : decide (aa < (l0.length : Int)) = true := decide_eq_true c4
     clear c4
     by_cases c5 : 0 ≤ aa
     ·
      rw [if_pos c5] at H
      have c5b0 : decide (0 ≤ aa) = true := decide_eq_true c5
      clear c5
      by_cases c6 : aa < (l1.length : Int)
      ·
       rw [if_pos c6] at H
       have c6b0 : decide (aa < (l1.length : Int)) = true := decide_eq_true c6
       clear c6
       by_cases c7 : (!(((rd_T60 l0 aa).f0) == ((rd_T60 l1 aa).f0)) || (!(((rd_T60 l0 aa).f1) == ((rd_T60 l1 aa).f1)) || (!((((rd_T60 l0 aa).f2).toList) == (((rd_T60 l1 aa).f2).toList)) || (!((((rd_T60 l0 aa).f3).toList) == (((rd_T60 l1 aa).f3).toList)))))) = true
       ·
        rw [if_pos c7] at H
        have c7b0 : (!(((rd_T60 l0 aa).f0) == ((rd_T60 l1 aa).f0)) || (!(((rd_T60 l0 aa).f1) == ((rd_T60 l1 aa).f1)) || (!((((rd_T60 l0 aa).f2).toList) == (((rd_T60 l1 aa).f2).toList)) || (!((((rd_T60 l0 aa).f3).toList) == (((rd_T60 l1 aa).f3).toList)))))) = true := c7
        clear c7
        obtain rfl := Option.some.inj H
        have p122 : 0 ≤ (aa : Int) := of_decide_eq_true (by first | (with_reducible assumption) | assumption)
        have q122 : aa < (l0.length : Int) := of_decide_eq_true (by first | (with_reducible assumption) | assumption)
        obtain ⟨ad122, e122, al, am, an, ao⟩ := at_T60 HR0.out aa p122 q122
        cases e122
        replace p122 := eq_true p122
        replace q122 := eq_true q122
        have p123 : 0 ≤ (aa : Int) := of_decide_eq_true (by first | (with_reducible assumption) | assumption)
        have q123 : aa < (l1.length : Int) := of_decide_eq_true (by first | (with_reducible assumption) | assumption)
        obtain ⟨ad123, e123, ap, aq, ar, au⟩ := at_T60 HR1.out aa p123 q123
        cases e123
        replace p123 := eq_true p123
        replace q123 := eq_true q123
        go_wp2
        repeat (go_quiet (fail); try go_wp2)
        go_ret
        exact ⟨by first | rfl | (simp; done) | (simp [*]; done), by repeat (first | exact Drawn0.refl _ | apply Drawn0.step)⟩
       ·
        rw [if_neg c7] at H
        have c7b0 : (!(((rd_T60 l0 aa).f0) == ((rd_T60 l1 aa).f0)) || (!(((rd_T60 l0 aa).f1) == ((rd_T60 l1 aa).f1)) || (!((((rd_T60 l0 aa).f2).toList) == (((rd_T60 l1 aa).f2).toList)) || (!((((rd_T60 l0 aa).f3).toList) == (((rd_T60 l1 aa).f3).toList)))))) = false := by simpa using c7
        clear c7
        have H' := Aside0.mk H
        clear H
        have p122 : 0 ≤ (aa : Int) := of_decide_eq_true (by first | (with_reducible assumption) | assumption)
        have q122 : aa < (l0.length : Int) := of_decide_eq_true (by first | (with_reducible assumption) | assumption)
        obtain ⟨ad122, e122, al, am, an, ao⟩ := at_T60 HR0.out aa p122 q122
        cases e122
        replace p122 := eq_true p122
        replace q122 := eq_true q122
        have p123 : 0 ≤ (aa : Int) := of_decide_eq_true (by first | (with_reducible assumption) | assumption)
        have q123 : aa < (l1.length : Int) := of_decide_eq_true (by first | (with_reducible assumption) | assumption)
        obtain ⟨ad123, e123, ap, aq, ar, au⟩ := at_T60 HR1.out aa p123 q123
        cases e123
        replace p123 := eq_true p123
        replace q123 := eq_true q123
        go_wp2
        repeat (go_quiet (fail); try go_wp2)
        go_roundg k1
        case measure => have := HK1.out; omega
        case rel => exact ⟨(wrap64 (aa + 1)), (by first | rfl | (simp; done) | (simp [*]; done)), H', ⟨by have := HK1.out; omega⟩, by repeat (first | exact Drawn0.refl _ | apply Drawn0.step)⟩
      ·
       rw [if_neg c6] at H
       exact absurd H (by simp)
     ·
      rw [if_neg c5] at H
      exact absurd H (by simp)
    ·
     rw [if_neg c4] at H
     have c4b0 : decide (aa < (l0.length : Int)) = false := decide_eq_false c4
     clear c4
     obtain rfl := Option.some.inj H
     go_wp2
     repeat (go_quiet (fail); try go_wp2)
     go_ret
     exact ⟨by first | rfl | (simp; done) | (simp [*]; done), by repeat (first | exact Drawn0.refl _ | apply Drawn0.step)⟩
 ·
  rw [if_neg c3] at H
  have c3b0 : ((l0.length : Int) == (l1.length : Int)) = false := beq_eq_false_iff_ne.mpr c3
  have c3b1 : ((l0.length : Int) != (l1.length : Int)) = true := bne_iff_ne.mpr c3
  have c3b2 : (l0.length == l1.length) = false := by first | simpa using c3 | (simp at c3 ⊢; omega)
  obtain rfl := Option.some.inj H
  go_enter Try.func55, Try.ntmps55
  go_wp2
  repeat (go_quiet (fail); try go_wp2)
  go_ret
  exact ⟨by first | rfl | (simp; done) | (simp [*]; done), by repeat (first | exact Drawn0.refl _ | apply Drawn0.step)⟩
end Go.Proofs.Ytobanhbjkomieaa.PTr
end
section
namespace Go.Proofs.Ytobanhbjkomieaa.TA
open Go Go.RowKit Go.Proofs.Ytobanhbjkomieaa.KP Go.Proofs.YtobanhbjkomieaaW.PrintWords Go.Proofs.YtobanhbjkomieaaW.PrintLast Go.Proofs.YtobanhbjkomieaaW.PrintMore
open Go.Proofs.Ytobanhbjkomieaa.RP (wTake wSkip wOne wpAnyH_cast below_next0)
set_option linter.unusedSimpArgs false
set_option linter.unusedVariables false
abbrev TxP := PTr.S34
abbrev CnP := PTr.S73
abbrev OpP := PTr.S85
def toC (x : CnP) : Cnd := ⟨x.f0, x.f1⟩
def toO (x : OpP) : Opn := ⟨x.f0, x.f1, x.f2⟩
def toX (x : TxP) : Tx := ⟨x.f0.map toC, x.f1.map toO⟩
theorem C_toC {w : World} {A : Option Addr} {n : Nat} {l : List CnP} (h : Kd.C PTr.k73 w A n l) : Kd.C kCnd w A n (l.map toC) := by
  unfold PTr.k73 at h
  unfold kCnd
  rw [C_iso] at h ⊢
  rw [List.map_map]
  exact h
theorem C_toO {w : World} {A : Option Addr} {n : Nat} {l : List OpP} (h : Kd.C PTr.k85 w A n l) : Kd.C kOpn w A n (l.map toO) := by
  unfold PTr.k85 at h
  unfold kOpn
  rw [C_iso] at h ⊢
  rw [List.map_map]
  exact h
theorem mn_bd {a b : Int} (ha : 0 ≤ a) (hb : 0 ≤ b) : 0 ≤ mn a b ∧ mn a b ≤ a := by unfold mn; split <;> omega
theorem weight_l1 (cs : List CnP) (os : List OpP) (hl : os.length ≤ maxLen) : ∀ (d i : Nat) (n : Int), i + d = os.length → 0 ≤ n → n ≤ 12010 → ∃ r, Ev (fun k => PTr.batonlaw12_weight.l1 k n (i : Int) cs os) r ∧ n ≤ r ∧ r ≤ 12010
  | 0, i, n, h, h0, h1 => by
    refine ⟨n, Ev.step (f := fun _ => some n) (fun k => ?_) (Ev.now _), Int.le_refl _, h1⟩
    simp only [PTr.batonlaw12_weight.l1]
    rw [if_neg (by omega)]
  | d + 1, i, n, h, h0, h1 => by
    unfold maxLen at hl
    by_cases c : n < 4000
    · have b1 := mn_bd (a := 4000) (b := (((PTr.rd_T85 os (i : Int)).f1).size : Int)) (by omega) (by omega)
      have b2 := mn_bd (a := 4000) (b := (((PTr.rd_T85 os (i : Int)).f2).size : Int)) (by omega) (by omega)
      obtain ⟨r, hr, h2, h3⟩ := weight_l1 cs os (by unfold maxLen; omega) d (i + 1) (n + 10 + mn 4000 (((PTr.rd_T85 os (i : Int)).f1).size : Int) + mn 4000 (((PTr.rd_T85 os (i : Int)).f2).size : Int)) (by omega) (by omega) (by omega)
      refine ⟨r, Ev.step (fun k => ?_) hr, by omega, h3⟩
      simp only [PTr.batonlaw12_weight.l1]
      rw [if_pos (by omega), if_pos c, if_pos (by omega)]
      generalize mn 4000 (((PTr.rd_T85 os (i : Int)).f1).size : Int) = p1 at *
      generalize mn 4000 (((PTr.rd_T85 os (i : Int)).f2).size : Int) = p2 at *
      congr 1
      · unfold wrap64; omega
      · unfold wrap64; omega
    · refine ⟨n, Ev.step (f := fun _ => some n) (fun k => ?_) (Ev.now _), Int.le_refl _, h1⟩
      simp only [PTr.batonlaw12_weight.l1]
      rw [if_pos (by omega), if_neg c]
theorem weight_l0 (cs : List CnP) (os : List OpP) (hc : cs.length ≤ maxLen) (hl : os.length ≤ maxLen) : ∀ (d i : Nat) (n : Int), i + d = cs.length → 0 ≤ n → n ≤ 8010 → ∃ r, Ev (fun k => PTr.batonlaw12_weight.l0 k n (i : Int) cs os) r ∧ n ≤ r ∧ r ≤ 12010
  | 0, i, n, h, h0, h1 => by
    obtain ⟨r, hr, h2, h3⟩ := weight_l1 cs os hl os.length 0 n (by omega) h0 (by omega)
    refine ⟨r, Ev.step (f := fun k => PTr.batonlaw12_weight.j1 k n cs os) (fun k => ?_) (Ev.step (fun k => ?_) hr), h2, h3⟩
    · simp only [PTr.batonlaw12_weight.l0]
      rw [if_neg (by omega)]
    · simp only [PTr.batonlaw12_weight.j1]
      rfl
  | d + 1, i, n, h, h0, h1 => by
    unfold maxLen at hc
    by_cases c : n < 4000
    · have b1 := mn_bd (a := 4000) (b := (((PTr.rd_T73 cs (i : Int)).f0).size : Int)) (by omega) (by omega)
      obtain ⟨r, hr, h2, h3⟩ := weight_l0 cs os (by unfold maxLen; omega) hl d (i + 1) (n + 10 + mn 4000 (((PTr.rd_T73 cs (i : Int)).f0).size : Int)) (by omega) (by omega) (by omega)
      refine ⟨r, Ev.step (fun k => ?_) hr, by omega, h3⟩
      simp only [PTr.batonlaw12_weight.l0]
      rw [if_pos (by omega), if_pos c, if_pos (by omega)]
      generalize mn 4000 (((PTr.rd_T73 cs (i : Int)).f0).size : Int) = p1 at *
      congr 1
      · unfold wrap64; omega
      · unfold wrap64; omega
    · obtain ⟨r, hr, h2, h3⟩ := weight_l1 cs os hl os.length 0 n (by omega) h0 (by omega)
      refine ⟨r, Ev.step (f := fun k => PTr.batonlaw12_weight.j1 k n cs os) (fun k => ?_) (Ev.step (fun k => ?_) hr), h2, h3⟩
      · simp only [PTr.batonlaw12_weight.l0]
        rw [if_pos (by omega), if_neg c]
      · simp only [PTr.batonlaw12_weight.j1]
        rfl
theorem weight_ev (cs : List CnP) (os : List OpP) (hc : cs.length ≤ maxLen) (hl : os.length ≤ maxLen) : ∃ r, Ev (fun k => PTr.batonlaw12_weight.f k cs os) r ∧ 10 ≤ r ∧ r ≤ 12010 := weight_l0 cs os hc hl cs.length 0 10 (by omega) (by omega) (by omega)
def okX (x : TxP) : Prop := ((∀ c ∈ x.f0, c.f0.size ≤ maxLen) ∧ x.f0.length ≤ maxLen) ∧ (∀ o ∈ x.f1, o.f1.size ≤ maxLen) ∧ x.f1.length ≤ maxLen
theorem wide_l0 (l : List TxP) (hl : l.length ≤ maxLen) (hx : ∀ x ∈ l, okX x) : ∀ (d i : Nat) (n : Int), i + d = l.length → 10 * i ≤ n → n ≤ 17010 → ∃ b, Ev (fun k => PTr.batonlaw12_wide.l0 k l n (i : Int)) b ∧ (b = false → (l.length : Int) * 10 < 5000)
  | 0, i, n, h, h0, h1 => by
    refine ⟨decide (n ≥ 5000), Ev.step (f := fun _ => some (decide (n ≥ 5000))) (fun k => ?_) (Ev.now _), fun hb => ?_⟩
    · simp only [PTr.batonlaw12_wide.l0]
      rw [if_neg (by omega)]
    · have := of_decide_eq_false hb
      omega
  | d + 1, i, n, h, h0, h1 => by
    unfold maxLen at hl
    have hi : i < l.length := by omega
    by_cases c : n < 5000
    · obtain ⟨⟨_, k1⟩, _, k2⟩ := hx l[i] (List.getElem_mem hi)
      obtain ⟨r, hr, h2, h3⟩ := weight_ev l[i].f0 l[i].f1 k1 k2
      obtain ⟨b, hb, h4⟩ := wide_l0 l (by unfold maxLen; omega) hx d (i + 1) (n + r) (by omega) (by omega) (by omega)
      refine ⟨b, Ev.step (f := fun k => (PTr.batonlaw12_weight.f k l[i].f0 l[i].f1).bind fun t => PTr.batonlaw12_wide.l0 k l (wrap64 (n + t)) ((i + 1 : Nat) : Int)) (fun k => ?_) (Ev.bind hr ?_), h4⟩
      · simp only [PTr.batonlaw12_wide.l0]
        have hg : PTr.rd_T34 l (i : Int) = l[i] := by simp [PTr.rd_T34, List.getD_eq_getElem?_getD, List.getElem?_eq_getElem hi]
        have hw : wrap64 ((i : Int) + 1) = ((i + 1 : Nat) : Int) := by unfold wrap64; omega
        rw [if_pos (by omega), if_pos c, if_pos (by omega), hg, hw]
      · rw [show wrap64 (n + r) = n + r by unfold wrap64; omega]
        exact hb
    · refine ⟨true, Ev.step (f := fun _ => some true) (fun k => ?_) (Ev.now _), fun hb => by cases hb⟩
      simp only [PTr.batonlaw12_wide.l0]
      rw [if_pos (by omega), if_neg c, decide_eq_true (by omega)]
theorem wide_any (l : List TxP) (hl : l.length ≤ maxLen) (hx : ∀ x ∈ l, okX x) : ∃ b, (b = false → l.length ≤ 500) ∧ ∀ (A : Option Addr) (c : Nat) (w : World), l.length ≤ c → Kd.C PTr.k34 w A l.length l →
    Calls Try.prog 38 #[.slice A l.length c] w fun e w' => e = .returned (.bool b) ∧ Below w.heap.size w w' := by
  obtain ⟨b, hb, h⟩ := wide_l0 l hl hx l.length 0 0 (by omega) (by omega) (by omega)
  refine ⟨b, fun e => by have := h e; omega, fun A c w hc hC => ?_⟩
  exact ev_calls hb (fun k hk => PTr.batonlaw12_wide.calls k A c l b w hC hc hk)
end Go.Proofs.Ytobanhbjkomieaa.TA
end
section
namespace Go.Proofs.Ytobanhbjkomieaa.TA
open Go Go.RowKit Go.Proofs.Ytobanhbjkomieaa.KP Go.Proofs.YtobanhbjkomieaaW.PrintWords Go.Proofs.YtobanhbjkomieaaW.PrintLast Go.Proofs.YtobanhbjkomieaaW.PrintMore
open Go.Proofs.Ytobanhbjkomieaa.RP (wTake wSkip wOne wpAnyH_cast below_next0)
set_option linter.unusedSimpArgs false
set_option linter.unusedVariables false
attribute [local go_sem high] EQ.eqA62
theorem at_Tx {w : World} {A : Option Addr} {l : List TxP} (h : Kd.C PTr.k34 w A l.length l) {k : Nat} (hk : k < l.length) : ∃ ad A0 c0 A1 c1, A = some ad ∧ w.cell? (ad.add (k * 2)) = some (.slice A0 (toX l[k]).cs.length c0) ∧ w.cell? ⟨(ad.add (k * 2)).block, (ad.add (k * 2)).off + 1, none⟩ = some (.slice A1 (toX l[k]).os.length c1) ∧
    (toX l[k]).cs.length ≤ c0 ∧ Kd.C kCnd w A0 (toX l[k]).cs.length (toX l[k]).cs ∧ (toX l[k]).os.length ≤ c1 ∧ Kd.C kOpn w A1 (toX l[k]).os.length (toX l[k]).os := by
  obtain ⟨ad, c, e, _, hK, hc⟩ := Kd.C_get h PTr.z34 (k : Int) (by omega) (by omega)
  simp only [Int.toNat_natCast, List.getD_eq_getElem?_getD, List.getElem?_eq_getElem hk, Option.getD_some] at hK hc
  obtain ⟨A0, c0, A1, c1, rfl, l0, g0, l1, g1⟩ := PTr.k34_open hK
  have hc : ∀ j u, _ → w.cell? (ad.add (k * 2 + j)) = some u := hc
  have e0 : (toX l[k]).cs.length = l[k].f0.length := List.length_map _
  have e1 : (toX l[k]).os.length = l[k].f1.length := List.length_map _
  rw [e0, e1]
  exact ⟨ad, A0, c0, A1, c1, e, hc 0 _ rfl, by rw [← add_field _ _ 1 (by omega)]; exact hc 1 _ rfl, l0, C_toC g0, l1, C_toO g1⟩
def okT (x : Tx) : Prop := (∀ c ∈ x.cs, c.key.size ≤ 9223372036854775807) ∧ ∀ o ∈ x.os, o.key.size ≤ 9223372036854775807
theorem okT_of {x : TxP} (h : okX x) : okT (toX x) := by
  obtain ⟨⟨h1, _⟩, h2, _⟩ := h
  refine ⟨fun c hc => ?_, fun o ho => ?_⟩
  · obtain ⟨y, hy, rfl⟩ := List.mem_map.1 hc
    exact h1 y hy
  · obtain ⟨y, hy, rfl⟩ := List.mem_map.1 ho
    exact h2 y hy
theorem run_take {l : List TxP} {k : Nat} (h : k < l.length) (m : Md) : run may ((l.take (k + 1)).map toX) m = (doM (mayTx (toX l[k]).cs (toX l[k]).os) (toX l[k]).cs (toX l[k]).os (run may ((l.take k).map toX) m)).1 := by
  rw [take_snoc h, List.map_append, List.map_singleton, run_snoc]
  rfl
theorem run_bd (l : List TxP) (k : Nat) (h : l.length ≤ 500) (m : Md) (hm : m.row.length ≤ 1000000 ∧ m.hap.length ≤ 1000000) : (run may ((l.take k).map toX) m).row.length ≤ 100000000 ∧ (run may ((l.take k).map toX) m).hap.length ≤ 100000000 := by
  have := run_le ((l.take k).map toX) m
  rw [List.length_map, List.length_take] at this
  omega
set_option maxHeartbeats 4000000 in
set_option maxRecDepth 100000 in
theorem grown_any (A : Option Addr) (c : Nat) (l : List TxP) (w : World) (hc : l.length ≤ c) (hC : Kd.C PTr.k34 w A l.length l) (hx : ∀ x ∈ l, okX x) (hl : l.length ≤ 500) :
    Calls Try.prog 40 #[.slice A l.length c] w fun e w' => ∃ g t ad c', e = .returned (.pointer (some ⟨g, 0, none⟩)) ∧ w.heap.size ≤ g ∧ At w' g t (run may (l.map toX) Md.new) ad c' ∧ Below w.heap.size w w' := by
  have HC := Lib.hid hC
  have HX := Lib.hid hx
  clear hC hx
  go_enter Try.func40, Try.ntmps40
  go_wp2_with fail
  refine (new_any w).mono ?_
  rintro e w1 ⟨g, rfl, hg, hA1, hb1⟩
  have A1 := Lib.hid hA1
  have B1 := Lib.hid hb1
  clear hA1 hb1
  go_wp2_with fail
  go_loopw [4] (fun i wr => ∃ (k : Nat) (t : AT) (ad : Option Addr) (c' : Nat), k ≤ l.length ∧ i = .int .i64 k ∧ Hid (At wr g t (run may ((l.take k).map toX) Md.new) ad c') ∧ Hid (Below w.heap.size w wr)) (fun i _ => l.length - (intOf i).toNat)
  case atStart => exact ⟨0, AT.nil, none, 0, by omega, rfl, A1, B1⟩
  case round =>
    obtain ⟨k, t, ad, c', hk, rfl, HA, HB⟩ := hrel
    by_cases hlt : k < l.length
    · obtain ⟨ab, A0, c0, A9, c9, rfl, f0, f1, l0, g0, l1, g1⟩ := at_Tx (Kd.C_below HC.out HB.out) hlt
      have hbd := run_bd l k hl Md.new ⟨by simp [Md.new], by simp [Md.new]⟩
      have ho := okT_of (HX.out l[k] (List.getElem_mem hlt))
      have hcall := do_any g t _ ad c' wr HA.out A0 c0 (toX l[k]).cs A9 c9 (toX l[k]).os l0 g0 l1 g1 ho hbd.1 hbd.2
      have HR := Lib.hid (run_take hlt Md.new)
      have HCL := Lib.hid hcall
      have i0 : (0 : Int) ≤ (k : Int) := by omega
      have i1 : (k : Int) < (l.length : Int) := by omega
      clear hcall g0 g1 ho hbd l0 l1
      generalize (toX l[k]).cs.length = n0 at *
      generalize (toX l[k]).os.length = n1 at *
      go_wp2_with fail
      refine HCL.out.mono ?_
      rintro e w3 ⟨V, t3, ad3, c3, rfl, _, hA3, hK3⟩
      go_wp2
      go_roundw
      case rel => exact ⟨k + 1, t3, ad3, c3, by omega, by go_num, by rw [HR.out]; exact Lib.hid hA3, Lib.hid (Kb.below HB.out hK3 hg HB.out.size)⟩
      case measure => simp [intOf]; omega
    · obtain rfl : k = l.length := by omega
      rw [List.take_length] at HA
      go_wp2
      go_ret
      exact ⟨g, t, ad, c', rfl, hg, HA.out, HB.out⟩
set_option maxHeartbeats 2000000 in
set_option maxRecDepth 100000 in
theorem lput_any (key val : ByteArray) (A : Option Addr) (n c : Nat) (w : World) :
    Calls Try.prog 49 #[.string key, .string val, .slice A n c] w fun e w' => ∃ g, e = .returned (.agg #[.slice A n c, .slice (some ⟨g, 0, none⟩) 1 1]) ∧ w.heap.size ≤ g ∧ w'.heap[g]? = some (.cells #[.bool false, .string key, .string val] 85 (0, 0)) ∧ Below w.heap.size w w' := by
  go_enter Try.func49, Try.ntmps49
  go_wp2
  refine bodyPost_ret (results_cell_row rfl _ _ w.heap.size 34 #[.slice A n c, .slice (some ⟨w.heap.size + 1, 0, none⟩) 1 1] (0, 0) _ rfl (blk_alloc (heap_alloc_new w (.cells #[.slice A n c, .slice (some ⟨w.heap.size + 1, 0, none⟩) 1 1] 34)) (.cells #[.bool false, .string key, .string val] 85)) Try.underlying34 rfl (by kernel_rfl)) rfl ?_
  exact ⟨w.heap.size + 1, rfl, by omega, alloc_at _ _ (by simp), below_alloc (below_alloc (Below.refl _ _) _) _⟩
set_option maxHeartbeats 4000000 in
set_option maxRecDepth 100000 in
theorem does_any (tb : Nat) (t : AT) (m : Md) (ad : Option Addr) (c : Nat) (w : World) (hT : At w tb t m ad c) (A : Option Addr) (ca : Nat) (cs : List Cnd) (B : Option Addr) (cb : Nat) (os : List Opn) (hca : cs.length ≤ ca) (hA : Kd.C kCnd w A cs.length cs) (hcb : os.length ≤ cb) (hB : Kd.C kOpn w B os.length os)
    (hs : (∀ x ∈ cs, x.key.size ≤ 9223372036854775807) ∧ ∀ x ∈ os, x.key.size ≤ 9223372036854775807) (hr : m.row.length ≤ 100000000) (hh : m.hap.length ≤ 100000000) (ev rev : Int) (h1 : (doM (mayTx cs os) cs os m).2.2.2 = 0) (h2 : (doM (mayTx cs os) cs os m).2.2.1 = true) (h3 : ((doM (mayTx cs os) cs os m).2.1.length : Int) = ev) (h4 : (doM (mayTx cs os) cs os m).1.rev = rev) :
    Calls Try.prog 54 #[.pointer (some ⟨tb, 0, none⟩), .agg #[.slice A cs.length ca, .slice B os.length cb], .int .i64 ev, .int .i64 rev] w fun e w' => ∃ t' ad' c', e = .returned (.bool true) ∧ At w' tb t' (doM (mayTx cs os) cs os m).1 ad' c' ∧ Kb tb w w' := by
  have hd := fun W hW hA hB => do_any tb t m ad c W hW A ca cs B cb os hca hA hcb hB hs hr hh
  rw [h1, h2] at hd
  have HD := Lib.hid hd
  have HT := Lib.hid hT
  have HA := Lib.hid hA
  have HB := Lib.hid hB
  have H3 := Lib.hid h3
  have H4 := Lib.hid h4
  clear hd hT hA hB h1 h2 h3 h4 hs hr hh
  go_enter Try.func54, Try.ntmps54
  go_wp2_with fail
  have Bw := Lib.hid (show Below w.heap.size w (w.alloc (.cells #[.slice A cs.length ca, .slice B os.length cb] 34)) from below_alloc (Below.refl _ _) (.cells #[.slice A cs.length ca, .slice B os.length cb] 34))
  generalize w.alloc (.cells #[.slice A cs.length ca, .slice B os.length cb] 34) = w1 at *
  refine (HD.out w1 (HT.out.below Bw.out) (Kd.C_below HA.out Bw.out) (Kd.C_below HB.out Bw.out)).mono ?_
  rintro e w2 ⟨V, t2, ad2, c2, rfl, hR, hA2, hK2⟩
  obtain ⟨A9, c9, hV⟩ := Kd.R_slice hR
  rw [hV]
  have hlen := H3.out
  have A2 := Lib.hid hA2
  have K2 := Lib.hid ((Kb.of_below Bw.out tb).trans hK2)
  have HD2 := Lib.hid (rev_any tb t2 _ ad2 c2 w2 hA2)
  clear hA2 hK2 hR HD hV
  have hrev := H4.out
  rw [hrev] at HD2
  clear hrev
  generalize hq : (doM (mayTx cs os) cs os m).2.1.length = ql at *
  clear hq
  subst hlen
  go_wp2_with fail
  refine HD2.out.mono ?_
  rintro e w3 ⟨rfl, hb3⟩
  go_wp2
  go_ret
  exact ⟨t2, ad2, c2, rfl, A2.out.below hb3, K2.out.then_below hb3⟩
set_option maxHeartbeats 4000000 in
set_option maxRecDepth 100000 in
theorem has_any (tb : Nat) (t : AT) (m : Md) (ad : Option Addr) (c : Nat) (w : World) (hT : At w tb t m ad c) (key val : ByteArray) (made mod : Int) (hg : getL key m.row = some ⟨key, val, made, mod⟩) :
    Calls Try.prog 58 #[.pointer (some ⟨tb, 0, none⟩), .string key, .string val, .int .i64 made, .int .i64 mod] w fun e w' => e = .returned (.bool true) ∧ Below w.heap.size w w' := by
  have hc := treeGet_any tb t m ad c w hT key
  rw [show getD key m.row = ⟨key, val, made, mod⟩ by unfold getD; rw [hg]; rfl, hg] at hc
  have HC := Lib.hid hc
  clear hc hT hg
  go_enter Try.func58, Try.ntmps58
  go_wp2_with fail
  refine HC.out.mono ?_
  rintro e w1 ⟨rfl, hb⟩
  have hbk : (key.toList == key.toList && (val.toList == val.toList && (made == made && mod == mod))) = true := by simp
  simp only [entV]
  go_wp2
  go_ret
  exact ⟨rfl, below_alloc hb _⟩
set_option maxHeartbeats 2000000 in
set_option maxRecDepth 100000 in
theorem lsince_any (tb : Nat) (t : AT) (m : Md) (ad : Option Addr) (c : Nat) (w : World) (hT : At w tb t m ad c) (n : Int) (hh : m.hap.length ≤ 1000000000) :
    Calls Try.prog 115 #[.pointer (some ⟨tb, 0, none⟩), .int .i64 n] w fun e w' => e = .returned (.tuple #[.int .i64 ((sinceM true ⟨#[]⟩ n m).1.length : Int), .int .i64 (sinceM true ⟨#[]⟩ n m).2]) ∧ Below w.heap.size w w' := by
  have hc := since_any tb t m ad c w hT ⟨#[]⟩ (by simp [ByteArray.size]) n hh
  rw [show isPrefix (⟨#[]⟩ : ByteArray).data.toList = true from rfl] at hc
  have HC := Lib.hid hc
  clear hc hT
  go_enter Try.func115, Try.ntmps115
  go_wp2_with fail
  refine HC.out.mono ?_
  rintro e w1 ⟨V, rfl, hR, hb⟩
  obtain ⟨A9, c9, rfl⟩ := Kd.R_slice hR
  clear hR
  go_wp2
  go_ret2
  exact ⟨rfl, hb⟩
end Go.Proofs.Ytobanhbjkomieaa.TA
end
section
namespace Go.Proofs.Ytobanhbjkomieaa.TA
open Go Go.Proofs.Ytobanhbjkomieaa.KP
set_option linter.unusedSimpArgs false
set_option linter.unusedVariables false
abbrev bA : ByteArray := ⟨#[97]⟩
abbrev bB : ByteArray := ⟨#[98]⟩
abbrev bX : ByteArray := ⟨#[120]⟩
abbrev bY : ByteArray := ⟨#[121]⟩
abbrev bZ : ByteArray := ⟨#[122]⟩
def aw1 : Md := ⟨[⟨bA, bX, 1, 1⟩], 1, 0, [⟨1, false, bA, bX⟩]⟩
def aw2 : Md := ⟨[⟨bA, bY, 1, 2⟩], 2, 0, [⟨1, false, bA, bX⟩, ⟨2, false, bA, bY⟩]⟩
def aw4 : Md := ⟨[⟨bA, bY, 1, 2⟩], 3, 0, [⟨1, false, bA, bX⟩, ⟨2, false, bA, bY⟩]⟩
def aw5 : Md := ⟨[⟨bA, bY, 1, 2⟩], 3, 2, []⟩
theorem keyA : isKey (⟨#[97]⟩ : ByteArray).data.toList = true := by kernel_rfl
theorem awM1 : mayTx [] [⟨false, bA, bX⟩] = true := by
  simp [mayTx, opsOk, mayO, keyA, Lib.toList_data]
  decide
theorem awM2 : mayTx [⟨bA, 1⟩] [⟨false, bA, bY⟩] = true := by
  simp [mayTx, opsOk, mayO, badC, mayR, keyA, Lib.toList_data]
  decide
theorem awM3 : mayTx [⟨bA, 1⟩] [⟨false, bA, bZ⟩] = true := by
  simp [mayTx, opsOk, mayO, badC, mayR, keyA, Lib.toList_data]
  decide
theorem keyB : isKey (⟨#[98]⟩ : ByteArray).data.toList = true := by kernel_rfl
theorem awM4 : mayTx [] [⟨true, bB, ⟨#[]⟩⟩] = true := by
  simp [mayTx, opsOk, mayO, badC, mayR, keyB, Lib.toList_data]
  decide
theorem awD1 : doM (mayTx [] [⟨false, bA, bX⟩]) [] [⟨false, bA, bX⟩] Md.new = (aw1, [⟨1, false, bA, bX⟩], true, 0) := by
  rw [awM1]
  simp [doM, Md.new, holdsL, opsL, opL, insL, madeOf, getL, aw1]
theorem awD2 : doM (mayTx [⟨bA, 1⟩] [⟨false, bA, bY⟩]) [⟨bA, 1⟩] [⟨false, bA, bY⟩] aw1 = (aw2, [⟨2, false, bA, bY⟩], true, 0) := by
  rw [awM2]
  simp [doM, aw1, holdsL, opsL, opL, insL, madeOf, getL, getD, aw2, lt_irrefl]
theorem awD3 : doM (mayTx [⟨bA, 1⟩] [⟨false, bA, bZ⟩]) [⟨bA, 1⟩] [⟨false, bA, bZ⟩] aw2 = (aw2, [], false, 0) := by
  rw [awM3]
  simp [doM, aw2, holdsL, getL, getD]
theorem awD4 : doM (mayTx [] [⟨true, bB, ⟨#[]⟩⟩]) [] [⟨true, bB, ⟨#[]⟩⟩] aw2 = (aw4, [], true, 0) := by
  rw [awM4]
  have : ¬ bA = bB := by decide
  simp [doM, aw2, holdsL, opsL, opL, getL, getD, aw4, this]
theorem awS4 : sinceM true ⟨#[]⟩ 2 aw4 = ([⟨2, false, bA, bY⟩], 0) := by
  simp [sinceM, aw4, sinceL]
theorem awC : cutM 2 aw4 = (aw5, 0) := by
  simp [cutM, aw4, aw5]
  decide
theorem awS5a : sinceM true ⟨#[]⟩ 2 aw5 = ([], 52) := by simp [sinceM, aw5]
theorem awS5b : sinceM true ⟨#[]⟩ 3 aw5 = ([], 0) := by simp [sinceM, aw5, sinceL]
theorem awS5c : sinceM true ⟨#[]⟩ 5 aw5 = ([], 1) := by simp [sinceM, aw5]
end Go.Proofs.Ytobanhbjkomieaa.TA
end
