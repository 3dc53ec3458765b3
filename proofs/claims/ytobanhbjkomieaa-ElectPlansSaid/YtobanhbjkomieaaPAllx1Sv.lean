import Derived.Test.YtobanhbjkomieaaPAllx0Sv
namespace Go.Proofs.Ytobanhbjkomieaa.PAll
open Go.RowKit Go.Proofs.YtobanhbjkomieaaW.PrintWords Go.Proofs.YtobanhbjkomieaaW.PrintLast Go.Proofs.YtobanhbjkomieaaW.PrintMore
attribute [local go_sem] max2_int min2_int max_two min_two max_three min_three max_four min_four   -- for this text's walks alone
set_option linter.unusedVariables false
set_option linter.unusedSimpArgs false
def kindOf (c : Int) : Int := if (97 ≤ c ∧ c ≤ 122) ∨ (65 ≤ c ∧ c ≤ 90) ∨ (48 ≤ c ∧ c ≤ 57) ∨ c = 45 ∨ c = 95 ∨ c = 46 then 2 else if c = 47 then 1 else 0
theorem kindOf_2 {c : Int} (h : (97 ≤ c ∧ c ≤ 122) ∨ (65 ≤ c ∧ c ≤ 90) ∨ (48 ≤ c ∧ c ≤ 57) ∨ c = 45 ∨ c = 95 ∨ c = 46) : kindOf c = 2 := if_pos h
theorem kindOf_1 {c : Int} (h : c = 47) : kindOf c = 1 := by subst h; rfl
theorem kindOf_0 {c : Int} (h : ¬ ((97 ≤ c ∧ c ≤ 122) ∨ (65 ≤ c ∧ c ≤ 90) ∨ (48 ≤ c ∧ c ≤ 57) ∨ c = 45 ∨ c = 95 ∨ c = 46)) (h1 : c ≠ 47) : kindOf c = 0 := by
 unfold kindOf; rw [if_neg h, if_neg h1]
def keys_of.f (a0 : Int) : Option (Int) := some (kindOf a0)
set_option maxHeartbeats 8000000 in
set_option maxRecDepth 100000 in
theorem keys_of.calls (a0 : Int) (r : Int) (w : World) (h : keys_of.f a0 = some r) :
  Calls Try.prog 193 #[.int .u8 a0] w fun e w' => e = .returned (.int .i64 r) ∧ Drawn0 w w' := by
 obtain rfl := Option.some.inj h
 clear h
 by_cases h1 : 97 ≤ a0
 ·
  by_cases h2 : a0 ≤ 122
  ·
   rw [kindOf_2 (by omega)]
   go_enter Try.func193, Try.ntmps193
   go_wp2
   go_ret
   exact ⟨by first | rfl | (simp; done) | (simp [*]; done), by repeat (first | exact Drawn0.refl _ | apply Drawn0.step)⟩
  ·
   rw [kindOf_0 (by omega) (by omega)]
   have e45 : (a0 == 45) = false := beq_eq_false_iff_ne.2 (by omega)
   have e95 : (a0 == 95) = false := beq_eq_false_iff_ne.2 (by omega)
   have e46 : (a0 == 46) = false := beq_eq_false_iff_ne.2 (by omega)
   have e47 : (a0 == 47) = false := beq_eq_false_iff_ne.2 (by omega)
   go_enter Try.func193, Try.ntmps193
   go_wp2
   go_ret
   exact ⟨by first | rfl | (simp; done) | (simp [*]; done), by repeat (first | exact Drawn0.refl _ | apply Drawn0.step)⟩
 ·
  by_cases h3 : 65 ≤ a0
  ·
   by_cases h4 : a0 ≤ 90
   ·
    rw [kindOf_2 (by omega)]
    go_enter Try.func193, Try.ntmps193
    go_wp2
    go_ret
    exact ⟨by first | rfl | (simp; done) | (simp [*]; done), by repeat (first | exact Drawn0.refl _ | apply Drawn0.step)⟩
   ·
    by_cases h5 : a0 = 95
    ·
     rw [kindOf_2 (by omega)]
     have e45 : (a0 == 45) = false := beq_eq_false_iff_ne.2 (by omega)
     have e95 : (a0 == 95) = true := beq_iff_eq.2 (by omega)
     have e46 : (a0 == 46) = false := beq_eq_false_iff_ne.2 (by omega)
     have e47 : (a0 == 47) = false := beq_eq_false_iff_ne.2 (by omega)
     go_enter Try.func193, Try.ntmps193
     go_wp2
     go_ret
     exact ⟨by first | rfl | (simp; done) | (simp [*]; done), by repeat (first | exact Drawn0.refl _ | apply Drawn0.step)⟩
    ·
     rw [kindOf_0 (by omega) (by omega)]
     have e45 : (a0 == 45) = false := beq_eq_false_iff_ne.2 (by omega)
     have e95 : (a0 == 95) = false := beq_eq_false_iff_ne.2 (by omega)
     have e46 : (a0 == 46) = false := beq_eq_false_iff_ne.2 (by omega)
     have e47 : (a0 == 47) = false := beq_eq_false_iff_ne.2 (by omega)
     go_enter Try.func193, Try.ntmps193
     go_wp2
     go_ret
     exact ⟨by first | rfl | (simp; done) | (simp [*]; done), by repeat (first | exact Drawn0.refl _ | apply Drawn0.step)⟩
  ·
   by_cases h6 : 48 ≤ a0
   ·
    by_cases h7 : a0 ≤ 57
    ·
     rw [kindOf_2 (by omega)]
     go_enter Try.func193, Try.ntmps193
     go_wp2
     go_ret
     exact ⟨by first | rfl | (simp; done) | (simp [*]; done), by repeat (first | exact Drawn0.refl _ | apply Drawn0.step)⟩
    ·
     rw [kindOf_0 (by omega) (by omega)]
     have e45 : (a0 == 45) = false := beq_eq_false_iff_ne.2 (by omega)
     have e95 : (a0 == 95) = false := beq_eq_false_iff_ne.2 (by omega)
     have e46 : (a0 == 46) = false := beq_eq_false_iff_ne.2 (by omega)
     have e47 : (a0 == 47) = false := beq_eq_false_iff_ne.2 (by omega)
     go_enter Try.func193, Try.ntmps193
     go_wp2
     go_ret
     exact ⟨by first | rfl | (simp; done) | (simp [*]; done), by repeat (first | exact Drawn0.refl _ | apply Drawn0.step)⟩
   ·
    by_cases h8 : a0 = 45
    ·
     rw [kindOf_2 (by omega)]
     have e45 : (a0 == 45) = true := beq_iff_eq.2 (by omega)
     have e95 : (a0 == 95) = false := beq_eq_false_iff_ne.2 (by omega)
     have e46 : (a0 == 46) = false := beq_eq_false_iff_ne.2 (by omega)
     have e47 : (a0 == 47) = false := beq_eq_false_iff_ne.2 (by omega)
     go_enter Try.func193, Try.ntmps193
     go_wp2
     go_ret
     exact ⟨by first | rfl | (simp; done) | (simp [*]; done), by repeat (first | exact Drawn0.refl _ | apply Drawn0.step)⟩
    ·
     by_cases h9 : a0 = 46
     ·
      rw [kindOf_2 (by omega)]
      have e45 : (a0 == 45) = false := beq_eq_false_iff_ne.2 (by omega)
      have e95 : (a0 == 95) = false := beq_eq_false_iff_ne.2 (by omega)
      have e46 : (a0 == 46) = true := beq_iff_eq.2 (by omega)
      have e47 : (a0 == 47) = false := beq_eq_false_iff_ne.2 (by omega)
      go_enter Try.func193, Try.ntmps193
      go_wp2
      go_ret
      exact ⟨by first | rfl | (simp; done) | (simp [*]; done), by repeat (first | exact Drawn0.refl _ | apply Drawn0.step)⟩
     ·
      by_cases h10 : a0 = 47
      ·
       rw [kindOf_1 (by omega)]
       have e45 : (a0 == 45) = false := beq_eq_false_iff_ne.2 (by omega)
       have e95 : (a0 == 95) = false := beq_eq_false_iff_ne.2 (by omega)
       have e46 : (a0 == 46) = false := beq_eq_false_iff_ne.2 (by omega)
       have e47 : (a0 == 47) = true := beq_iff_eq.2 (by omega)
       go_enter Try.func193, Try.ntmps193
       go_wp2
       go_ret
       exact ⟨by first | rfl | (simp; done) | (simp [*]; done), by repeat (first | exact Drawn0.refl _ | apply Drawn0.step)⟩
      ·
       rw [kindOf_0 (by omega) (by omega)]
       have e45 : (a0 == 45) = false := beq_eq_false_iff_ne.2 (by omega)
       have e95 : (a0 == 95) = false := beq_eq_false_iff_ne.2 (by omega)
       have e46 : (a0 == 46) = false := beq_eq_false_iff_ne.2 (by omega)
       have e47 : (a0 == 47) = false := beq_eq_false_iff_ne.2 (by omega)
       go_enter Try.func193, Try.ntmps193
       go_wp2
       go_ret
       exact ⟨by first | rfl | (simp; done) | (simp [*]; done), by repeat (first | exact Drawn0.refl _ | apply Drawn0.step)⟩
def keys_all.l0 : Nat → ByteArray → Int → Int → Int → Int → Option (Bool)
 | 0, _, _, _, _, _ => none
 | k + 1, x0, x1, x2, x9, x10 => if x10 < x9 then (if 0 ≤ x10 then (if x10 < (x0.size : Int) then ((keys_of.f (bt x0 x10)).bind fun ad => (if ad < x1 then (some false) else (keys_all.l0 k x0 x1 x2 x9 (wrap64 (x10 + 1))))) else (none)) else (none)) else (some (decide ((x0.size : Int) ≤ x2)))
def keys_all.f (k : Nat) (a0 : ByteArray) (a1 : Int) (a2 : Int) : Option (Bool) := keys_all.l0 k a0 a1 a2 (a0.size : Int) 0
set_option maxHeartbeats 8000000 in
set_option maxRecDepth 100000 in
theorem keys_all.calls (k : Nat) (a0 : ByteArray) (a1 : Int) (a2 : Int) (r : Bool) (w : World) (h : keys_all.f k a0 a1 a2 = some r) :
  Calls Try.prog 166 #[.string a0, .int .i64 a1, .int .i64 a2] w fun e w' => e = .returned (.bool r) ∧ Drawn0 w w' := by
 have H : (keys_all.l0 k a0 a1 a2 (a0.size : Int) 0) = some r := h
 clear h
 have H' := Aside0.mk H
 clear H
 go_enter Try.func166, Try.ntmps166
 go_wp2
 go_loopg [10] k (fun kq v10 w' => ∃ (ab : Int), v10 = .int .i64 ab ∧ Aside0 (keys_all.l0 kq a0 a1 a2 (a0.size : Int) ab = some r) ∧ Aside0 (kq ≤ k) ∧ Drawn0 w w')
 case atStart => exact ⟨(0), (by first | rfl | (simp; done) | (simp [*]; done)), H', ⟨Nat.le_refl _⟩, by repeat (first | exact Drawn0.refl _ | apply Drawn0.step)⟩
 case round =>
  clear H'
  try clear c1
  try clear p2
  obtain ⟨ab, rfl, HA, HK1, ⟨m1, rfl⟩⟩ := hrel
  cases gk with
  | zero => exact absurd HA.out (by simp [keys_all.l0])
  | succ k1 =>
   have H := HA.out
   clear HA
   simp only [keys_all.l0] at H
   by_cases c4 : ab < (a0.size : Int)
   ·
    rw [if_pos c4] at H
    have c4b0 : decide (ab < (a0.size : Int)) = true := decide_eq_true c4
    clear c4
    by_cases c5 : 0 ≤ ab
    ·
     rw [if_pos c5] at H
     have c5b0 : decide (0 ≤ ab) = true := decide_eq_true c5
     clear c5
     by_cases c6 : ab < (a0.size : Int)
     ·
      rw [if_pos c6] at H
      have c6b0 : decide (ab < (a0.size : Int)) = true := decide_eq_true c6
      clear c6
      replace H := Option.bind_eq_some_iff.mp H
      obtain ⟨ad, A80, H⟩ := H
      replace H : (if ad < a1 then (some false) else (keys_all.l0 k1 a0 a1 a2 (a0.size : Int) (wrap64 (ab + 1)))) = some r := H
      have A8 := Aside0.mk A80
      clear A80
      by_cases c9 : ad < a1
      ·
       rw [if_pos c9] at H
       have c9b0 : decide (ad < a1) = true := decide_eq_true c9
       clear c9
       obtain rfl := Option.some.inj H
       have p7 : 0 ≤ (ab : Int) := of_decide_eq_true (by first | (with_reducible assumption) | assumption)
       have q7 : ab < (a0.size : Int) := of_decide_eq_true (by first | (with_reducible assumption) | assumption)
       have hx7 := bt_at a0 ab
       replace p7 := eq_true p7
       replace q7 := eq_true q7
       go_wp2_with (first | ((with_reducible refine gate_callee (f := 193) rfl ?_); refine goesL_ (some 16) rfl rfl Try.func193 (by kernel_rfl) rfl #[.int .u8 (bt a0 ab)] rfl (by (try simp only [List.map_toArray, List.map_cons, List.map_nil]); first | done | rfl | (simp only [List.length_drop, List.length_take]; rfl)) ?_; (with_reducible refine (keys_of.calls (bt a0 ab) ad _ A8.out).mono ?_); rintro e w' ⟨rfl, ⟨nd, rfl⟩⟩; refine ⟨_, rfl, ?_⟩))
       go_ret
       exact ⟨by first | rfl | (simp; done) | (simp [*]; done), by repeat (first | exact Drawn0.refl _ | apply Drawn0.step)⟩
      ·
       rw [if_neg c9] at H
       have c9b0 : decide (ad < a1) = false := decide_eq_false c9
       clear c9
       have H' := Aside0.mk H
       clear H
       have p7 : 0 ≤ (ab : Int) := of_decide_eq_true (by first | (with_reducible assumption) | assumption)
       have q7 : ab < (a0.size : Int) := of_decide_eq_true (by first | (with_reducible assumption) | assumption)
       have hx7 := bt_at a0 ab
       replace p7 := eq_true p7
       replace q7 := eq_true q7
       go_wp2_with (first | ((with_reducible refine gate_callee (f := 193) rfl ?_); refine goesL_ (some 16) rfl rfl Try.func193 (by kernel_rfl) rfl #[.int .u8 (bt a0 ab)] rfl (by (try simp only [List.map_toArray, List.map_cons, List.map_nil]); first | done | rfl | (simp only [List.length_drop, List.length_take]; rfl)) ?_; (with_reducible refine (keys_of.calls (bt a0 ab) ad _ A8.out).mono ?_); rintro e w' ⟨rfl, ⟨nd, rfl⟩⟩; refine ⟨_, rfl, ?_⟩))
       go_roundg k1
       case measure => have := HK1.out; omega
       case rel => exact ⟨(wrap64 (ab + 1)), (by first | rfl | (simp; done) | (simp [*]; done)), H', ⟨by have := HK1.out; omega⟩, by repeat (first | exact Drawn0.refl _ | apply Drawn0.step)⟩
     ·
      rw [if_neg c6] at H
      exact absurd H (by simp)
    ·
     rw [if_neg c5] at H
     exact absurd H (by simp)
   ·
    rw [if_neg c4] at H
    have c4b0 : decide (ab < (a0.size : Int)) = false := decide_eq_false c4
    clear c4
    obtain rfl := Option.some.inj H
    go_wp2
    go_ret
    exact ⟨by first | rfl | (simp; done) | (simp [*]; done), by repeat (first | exact Drawn0.refl _ | apply Drawn0.step)⟩
def keys_Name.f (k : Nat) (a0 : ByteArray) : Option (Bool) := if a0.toList = ([] : List UInt8) then (some false) else ((keys_all.f k a0 2 24).bind fun ae => (some ae))
set_option maxHeartbeats 8000000 in
set_option maxRecDepth 100000 in
theorem keys_Name.calls (k : Nat) (a0 : ByteArray) (r : Bool) (w : World) (h : keys_Name.f k a0 = some r) :
  Calls Try.prog 107 #[.string a0] w fun e w' => e = .returned (.bool r) ∧ Drawn0 w w' := by
 have H : (if a0.toList = ([] : List UInt8) then (some false) else ((keys_all.f k a0 2 24).bind fun ae => (some ae))) = some r := h
 clear h
 by_cases c2 : a0.toList = ([] : List UInt8)
 ·
  rw [if_pos c2] at H
  have c2b0 : (a0.toList == ([] : List UInt8)) = true := beq_iff_eq.mpr c2
  have c2b1 : (a0.toList != ([] : List UInt8)) = false := bne_eq_false_iff_eq.mpr c2
  clear c2
  obtain rfl := Option.some.inj H
  go_enter Try.func107, Try.ntmps107
  go_wp2
  go_ret
  exact ⟨by first | rfl | (simp; done) | (simp [*]; done), by repeat (first | exact Drawn0.refl _ | apply Drawn0.step)⟩
 ·
  rw [if_neg c2] at H
  have c2b0 : (a0.toList == ([] : List UInt8)) = false := beq_eq_false_iff_ne.mpr c2
  have c2b1 : (a0.toList != ([] : List UInt8)) = true := bne_iff_ne.mpr c2
  replace H := Option.bind_eq_some_iff.mp H
  obtain ⟨ae, A30, H⟩ := H
  replace H : (some ae) = some r := H
  have A3 := Aside0.mk A30
  clear A30
  obtain rfl := Option.some.inj H
  go_enter Try.func107, Try.ntmps107
  go_wp2_with (first | (go_at_call 166; (with_reducible refine (keys_all.calls k a0 2 24 ae _ A3.out).mono ?_); rintro e w' ⟨rfl, ⟨nd, rfl⟩⟩))
  go_ret
  exact ⟨by first | rfl | (simp; done) | (simp [*]; done), by repeat (first | exact Drawn0.refl _ | apply Drawn0.step)⟩
def keys_Clusters.f (k : Nat) (a0 : ByteArray) : Option (ByteArray) := (keys_Name.f k a0).bind fun t => if t = true then (if a0.size ≤ 140737488351232 then some ((⟨#[99, 47]⟩ : ByteArray) ++ a0 ++ (⟨#[47]⟩ : ByteArray)) else none) else some (⟨#[]⟩ : ByteArray)
set_option maxHeartbeats 8000000 in
set_option maxRecDepth 100000 in
theorem keys_Clusters.calls (k : Nat) (a0 : ByteArray) (r : ByteArray) (w : World) (h : keys_Clusters.f k a0 = some r) :
  Calls Try.prog 202 #[.string a0] w fun e w' => e = .returned (.string r) ∧ Drawn0 w w' := by
 obtain ⟨t, h0, h1⟩ := Option.bind_eq_some_iff.mp h
 clear h
 have H := Aside0.mk h0
 clear h0
 cases t with
 | true =>
  by_cases hs : a0.size ≤ 140737488351232
  ·
   simp only [if_true, if_pos hs, Option.some.injEq] at h1
   subst h1
   go_enter Try.func202, Try.ntmps202
   go_wp2_with (go_at_call 107; refine (keys_Name.calls k a0 true _ H.out).mono ?_; rintro e w' ⟨rfl, ⟨nd, rfl⟩⟩)
   go_ret
   exact ⟨by first | rfl | (simp; done) | (simp [*]; done), by repeat (first | exact Drawn0.refl _ | apply Drawn0.step)⟩
  ·
   simp [if_neg hs] at h1
 | false =>
  simp only [Bool.false_eq_true, if_false, Option.some.injEq] at h1
  subst h1
  go_enter Try.func202, Try.ntmps202
  go_wp2_with (go_at_call 107; refine (keys_Name.calls k a0 false _ H.out).mono ?_; rintro e w' ⟨rfl, ⟨nd, rfl⟩⟩)
  go_ret
  exact ⟨by first | rfl | (simp; done) | (simp [*]; done), by repeat (first | exact Drawn0.refl _ | apply Drawn0.step)⟩
def keys_Cluster.f (k : Nat) (a0 : ByteArray) (a1 : ByteArray) : Option (ByteArray) := (keys_Name.f k a0).bind fun af => (if af = true then ((keys_Name.f k a1).bind fun ac => (if ac = true then ((keys_Clusters.f k a0).bind fun aa => (if aa.size + a1.size ≤ 9223372036854775807 then (some (aa ++ a1)) else (none))) else (some (⟨#[]⟩ : ByteArray)))) else (some (⟨#[]⟩ : ByteArray)))
set_option maxHeartbeats 8000000 in
set_option maxRecDepth 100000 in
theorem keys_Cluster.calls (k : Nat) (a0 : ByteArray) (a1 : ByteArray) (r : ByteArray) (w : World) (h : keys_Cluster.f k a0 a1 = some r) :
  Calls Try.prog 168 #[.string a0, .string a1] w fun e w' => e = .returned (.string r) ∧ Drawn0 w w' := by
 have H : ((keys_Name.f k a0).bind fun af => (if af = true then ((keys_Name.f k a1).bind fun ac => (if ac = true then ((keys_Clusters.f k a0).bind fun aa => (if aa.size + a1.size ≤ 9223372036854775807 then (some (aa ++ a1)) else (none))) else (some (⟨#[]⟩ : ByteArray)))) else (some (⟨#[]⟩ : ByteArray)))) = some r := h
 clear h
 replace H := Option.bind_eq_some_iff.mp H
 obtain ⟨af, A30, H⟩ := H
 replace H : (if af = true then ((keys_Name.f k a1).bind fun ac => (if ac = true then ((keys_Clusters.f k a0).bind fun aa => (if aa.size + a1.size ≤ 9223372036854775807 then (some (aa ++ a1)) else (none))) else (some (⟨#[]⟩ : ByteArray)))) else (some (⟨#[]⟩ : ByteArray))) = some r := H
 have A3 := Aside0.mk A30
 clear A30
 by_cases c4 : af = true
 ·
  subst c4
  have H1 : ((keys_Name.f k a1).bind fun ac => (if ac = true then ((keys_Clusters.f k a0).bind fun aa => (if aa.size + a1.size ≤ 9223372036854775807 then (some (aa ++ a1)) else (none))) else (some (⟨#[]⟩ : ByteArray)))) = some r := by rw [if_pos rfl] at H; exact H
  clear H
  have H := H1
  clear H1
  replace H := Option.bind_eq_some_iff.mp H
  obtain ⟨ac, A50, H⟩ := H
  replace H : (if ac = true then ((keys_Clusters.f k a0).bind fun aa => (if aa.size + a1.size ≤ 9223372036854775807 then (some (aa ++ a1)) else (none))) else (some (⟨#[]⟩ : ByteArray))) = some r := H
  have A5 := Aside0.mk A50
  clear A50
  by_cases c6 : ac = true
  ·
   subst c6
   have H1 : ((keys_Clusters.f k a0).bind fun aa => (if aa.size + a1.size ≤ 9223372036854775807 then (some (aa ++ a1)) else (none))) = some r := by rw [if_pos rfl] at H; exact H
   clear H
   have H := H1
   clear H1
   replace H := Option.bind_eq_some_iff.mp H
   obtain ⟨aa, A70, H⟩ := H
   replace H : (if aa.size + a1.size ≤ 9223372036854775807 then (some (aa ++ a1)) else (none)) = some r := H
   have A7 := Aside0.mk A70
   clear A70
   by_cases c8 : aa.size + a1.size ≤ 9223372036854775807
   ·
    rw [if_pos c8] at H
    have c8b0 := eq_true c8
    have c8b1 : decide (aa.size + a1.size ≤ 9223372036854775807) = true := decide_eq_true c8
    try have c8b2 : (9223372036854775807 < aa.size + a1.size) = False := eq_false (Nat.not_lt.2 c8)
    obtain rfl := Option.some.inj H
    go_enter Try.func168, Try.ntmps168
    go_wp2_with (first | ((with_reducible refine gate_callee (f := 107) rfl ?_); refine goesL_ (some 6) rfl rfl Try.func107 (by kernel_rfl) rfl #[.string a0] rfl (by (try simp only [List.map_toArray, List.map_cons, List.map_nil]); first | done | rfl | (simp only [List.length_drop, List.length_take]; rfl)) ?_; (with_reducible refine (keys_Name.calls k a0 true _ A3.out).mono ?_); rintro e w' ⟨rfl, ⟨nd, rfl⟩⟩; refine ⟨_, rfl, ?_⟩) | (go_at_call 107; (with_reducible refine (keys_Name.calls k a1 true _ A5.out).mono ?_); rintro e w' ⟨rfl, ⟨nd, rfl⟩⟩) | ((with_reducible refine gate_callee (f := 202) rfl ?_); refine goesL_ (some 14) rfl rfl Try.func202 (by kernel_rfl) rfl #[.string a0] rfl (by (try simp only [List.map_toArray, List.map_cons, List.map_nil]); first | done | rfl | (simp only [List.length_drop, List.length_take]; rfl)) ?_; (with_reducible refine (keys_Clusters.calls k a0 aa _ A7.out).mono ?_); rintro e w' ⟨rfl, ⟨nd, rfl⟩⟩; refine ⟨_, rfl, ?_⟩))
    go_ret
    exact ⟨by first | rfl | (simp; done) | (simp [*]; done), by repeat (first | exact Drawn0.refl _ | apply Drawn0.step)⟩
   ·
    rw [if_neg c8] at H
    exact absurd H (by simp)
  ·
   replace c6 := Bool.eq_false_iff.mpr c6
   subst c6
   have H1 : (some (⟨#[]⟩ : ByteArray)) = some r := by rw [if_neg (show ¬ (false = true) by decide)] at H; exact H
   clear H
   have H := H1
   clear H1
   obtain rfl := Option.some.inj H
   go_enter Try.func168, Try.ntmps168
   go_wp2_with (first | ((with_reducible refine gate_callee (f := 107) rfl ?_); refine goesL_ (some 6) rfl rfl Try.func107 (by kernel_rfl) rfl #[.string a0] rfl (by (try simp only [List.map_toArray, List.map_cons, List.map_nil]); first | done | rfl | (simp only [List.length_drop, List.length_take]; rfl)) ?_; (with_reducible refine (keys_Name.calls k a0 true _ A3.out).mono ?_); rintro e w' ⟨rfl, ⟨nd, rfl⟩⟩; refine ⟨_, rfl, ?_⟩) | (go_at_call 107; (with_reducible refine (keys_Name.calls k a1 false _ A5.out).mono ?_); rintro e w' ⟨rfl, ⟨nd, rfl⟩⟩))
   go_ret
   exact ⟨by first | rfl | (simp; done) | (simp [*]; done), by repeat (first | exact Drawn0.refl _ | apply Drawn0.step)⟩
 ·
  replace c4 := Bool.eq_false_iff.mpr c4
  subst c4
  have H1 : (some (⟨#[]⟩ : ByteArray)) = some r := by rw [if_neg (show ¬ (false = true) by decide)] at H; exact H
  clear H
  have H := H1
  clear H1
  obtain rfl := Option.some.inj H
  go_enter Try.func168, Try.ntmps168
  go_wp2_with (first | ((with_reducible refine gate_callee (f := 107) rfl ?_); refine goesL_ (some 6) rfl rfl Try.func107 (by kernel_rfl) rfl #[.string a0] rfl (by (try simp only [List.map_toArray, List.map_cons, List.map_nil]); first | done | rfl | (simp only [List.length_drop, List.length_take]; rfl)) ?_; (with_reducible refine (keys_Name.calls k a0 false _ A3.out).mono ?_); rintro e w' ⟨rfl, ⟨nd, rfl⟩⟩; refine ⟨_, rfl, ?_⟩))
  go_ret
  exact ⟨by first | rfl | (simp; done) | (simp [*]; done), by repeat (first | exact Drawn0.refl _ | apply Drawn0.step)⟩
end Go.Proofs.Ytobanhbjkomieaa.PAll
