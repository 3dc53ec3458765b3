import Derived.Test.YtobanhbjkomieaaBZSb
import Derived.Test.YtobanhbjkomieaaTGSb
import Derived.Shelf.Abstract
section
namespace Go.Proofs.Ytobanhbjkomieaa.KP
open Go.RowKit Go.Proofs.Ytobanhbjkomieaa.PAll Go.Proofs.YtobanhbjkomieaaW.PrintWords Go.Proofs.YtobanhbjkomieaaW.PrintLast
set_option linter.unusedSimpArgs false
set_option linter.unusedVariables false
theorem all_l0B (l : List UInt8) (hl : l.length ≤ 9223372036854775807) (least most : Int) : ∀ (d i : Nat), i + d = l.length →
    Ev (fun k => keys_all.l0 k ⟨l.toArray⟩ least most (l.length : Int) (i : Int)) (allK least (l.drop i) && decide ((l.length : Int) ≤ most))
  | 0, i, h => by
    refine Ev.step (f := fun _ => some (allK least (l.drop i) && decide ((l.length : Int) ≤ most))) (fun k => ?_) (Ev.now _)
    simp only [keys_all.l0]
    rw [if_neg (by omega), List.drop_eq_nil_of_le (by omega), size_mk]
    simp [allK]
  | d + 1, i, h => by
    have hi : i < l.length := by omega
    have hd : l.drop i = l[i] :: l.drop (i + 1) := List.drop_eq_getElem_cons hi
    have ih := all_l0B l hl least most d (i + 1) (by omega)
    refine Ev.step (f := fun k => (keys_of.f (bt ⟨l.toArray⟩ (i : Int))).bind fun t => if t < least then some false else keys_all.l0 k ⟨l.toArray⟩ least most (l.length : Int) (wrap64 ((i : Int) + 1))) (fun k => ?_) ?_
    · simp only [keys_all.l0]
      rw [if_pos (by omega), if_pos (by omega), if_pos (by rw [size_mk]; omega)]
    · refine Ev.bind (of_ev _) ?_
      rw [bt_mk l i hi, show wrap64 ((i : Int) + 1) = ((i + 1 : Nat) : Int) by unfold wrap64; omega, hd]
      by_cases hc : kindOf (l[i].toNat : Int) < least
      · simp only [if_pos hc, allK, List.all_cons]
        rw [decide_eq_false (by omega)]
        exact Ev.now _
      · simp only [if_neg hc, allK, List.all_cons]
        rw [decide_eq_true (by omega), Bool.true_and]
        exact ih
theorem all_evB (l : List UInt8) (hl : l.length ≤ 9223372036854775807) (least most : Int) : Ev (fun k => keys_all.f k ⟨l.toArray⟩ least most) (allK least l && decide ((l.length : Int) ≤ most)) := by
  have h := all_l0B l hl least most l.length 0 (by omega)
  refine Ev.congr (fun k => ?_) h
  simp only [keys_all.f, size_mk]
  rfl
theorem key_evB (l : List UInt8) (hl : l.length ≤ 9223372036854775807) : Ev (fun k => keys_Key.f k ⟨l.toArray⟩) (isKey l) := by
  unfold isKey
  by_cases h : l = []
  · subst h
    refine Ev.congr (f := fun _ => some false) (fun k => ?_) (Ev.now _)
    simp only [keys_Key.f, toList_mk, if_true]
  · refine Ev.congr (f := fun k => (keys_all.f k ⟨l.toArray⟩ 1 64).bind fun t => some t) (fun k => ?_) ?_
    · simp only [keys_Key.f, toList_mk]
      rw [if_neg h]
    · have h1 := all_evB l hl 1 64
      rw [show (64 : Int) = ((64 : Nat) : Int) from rfl, dec_cast] at h1
      have : l.isEmpty = false := by cases l <;> simp_all
      rw [this]
      exact Ev.bind h1 (Ev.now _)
theorem prefix_evB (l : List UInt8) (hl : l.length ≤ 9223372036854775807) : Ev (fun k => keys_Prefix.f k ⟨l.toArray⟩) (isPrefix l) := by
  have h1 := all_evB l hl 1 64
  rw [show (64 : Int) = ((64 : Nat) : Int) from rfl, dec_cast] at h1
  exact Ev.bind h1 (Ev.now _)
theorem keysKey_big (s : ByteArray) (hs : s.size ≤ 9223372036854775807) (w : World) : Calls Try.prog 123 #[.string s] w fun e w' => e = .returned (.bool (isKey s.data.toList)) ∧ Drawn0 w w' := by
  obtain ⟨⟨l⟩⟩ := s
  exact ev_calls (key_evB l (by rw [size_mk] at hs; exact hs)) (fun k h => keys_Key.calls k _ _ w h)
theorem keysPrefix_big (s : ByteArray) (hs : s.size ≤ 9223372036854775807) (w : World) : Calls Try.prog 119 #[.string s] w fun e w' => e = .returned (.bool (isPrefix s.data.toList)) ∧ Drawn0 w w' := by
  obtain ⟨⟨l⟩⟩ := s
  exact ev_calls (prefix_evB l (by rw [size_mk] at hs; exact hs)) (fun k h => keys_Prefix.calls k _ _ w h)
end Go.Proofs.Ytobanhbjkomieaa.KP
end
section
namespace Go.Proofs.Ytobanhbjkomieaa.TA
open Go Go.RowKit Go.Proofs.Ytobanhbjkomieaa.KP Go.Proofs.YtobanhbjkomieaaW.PrintWords Go.Proofs.YtobanhbjkomieaaW.PrintLast Go.Proofs.YtobanhbjkomieaaW.PrintMore
open Go.Proofs.Ytobanhbjkomieaa.RP (wTake wSkip wOne wpAnyH_cast keep_cell below_next0)
set_option linter.unusedSimpArgs false
set_option linter.unusedVariables false
def idxL {α : Type} (p : α → Bool) (l : List α) : Int := match l.findIdx? p with | some i => (i : Int) | none => -1
theorem idxL_some {α : Type} {p : α → Bool} {l : List α} {k : Nat} (hk : k < l.length) (h0 : ∀ j (h : j < k), p (l[j]'(by omega)) = false) (h1 : p l[k] = true) : idxL p l = (k : Int) := by
  unfold idxL
  rw [List.findIdx?_eq_some_iff_getElem.2 ⟨hk, h1, fun j hj => by simpa using h0 j hj⟩]
theorem idxL_none {α : Type} {p : α → Bool} {l : List α} (h0 : ∀ j (h : j < l.length), p l[j] = false) : idxL p l = -1 := by
  unfold idxL
  rw [List.findIdx?_eq_none_iff.2 (fun x hx => by obtain ⟨j, hj, rfl⟩ := List.getElem_of_mem hx; exact h0 j hj)]
theorem idxL_any {α : Type} {p : α → Bool} {l : List α} : decide (0 ≤ idxL p l) = l.any p := by
  unfold idxL
  cases h : l.findIdx? p with
  | none =>
    have := List.findIdx?_eq_none_iff.1 h
    have h2 : l.any p = false := by rw [List.any_eq_false]; intro x hx; simpa using this x hx
    rw [h2]
    simp
  | some i =>
    obtain ⟨hi, hp, _⟩ := List.findIdx?_eq_some_iff_getElem.1 h
    have h2 : l.any p = true := List.any_eq_true.2 ⟨l[i], List.getElem_mem hi, hp⟩
    rw [h2]
    simp
set_option maxHeartbeats 2000000 in
set_option maxRecDepth 100000 in
theorem idxCnd_any (p : Cnd → Bool) (fn : Nat) (en : ∀ args w, (callFunc fn args).run Try.prog w = .ok (.enter fn args) w) (A : Option Addr) (c : Nat) (l : List Cnd) (w : World) (hc : l.length ≤ c) (hr : Kd.C kCnd w A l.length l) (hl : l.length ≤ 9223372036854775807)
    (hf : ∀ x ∈ l, ∀ W, Below w.heap.size w W → Calls Try.prog fn #[.agg #[.string x.key, .int .i64 x.mod]] W fun e w' => e = .returned (.bool (p x)) ∧ Below W.heap.size W w') :
    Calls Try.prog 175 #[.slice A l.length c, .func (.func fn) #[] #[]] w fun e w' => e = .returned (.int .i64 (idxL p l)) ∧ Below w.heap.size w w' := by
  have HC := Lib.hid hr
  have HF := Lib.hid hf
  clear hr hf
  go_enter Try.func175, Try.ntmps175
  go_wp2_with fail
  go_loopw [8] (fun i wr => ∃ k : Nat, k ≤ l.length ∧ i = .int .i64 k ∧ Below w.heap.size w wr ∧ Hid (∀ j (h : j < k) (h2 : j < l.length), p l[j] = false)) (fun i _ => l.length - (intOf i).toNat)
  case atStart => exact ⟨0, by omega, rfl, Below.refl _ _, fun j h => absurd h (by omega)⟩
  case round =>
    obtain ⟨k, hk, rfl, hbw, hno⟩ := hrel
    by_cases hlt : k < l.length
    · obtain ⟨ad, rfl, f0, f1⟩ := at_Cnd (Kd.C_below HC.out hbw) hlt
      have C1 := HF.out l[k] (List.getElem_mem hlt)
      have i0 : (0 : Int) ≤ (k : Int) := by omega
      have i1 : (k : Int) < (l.length : Int) := by omega
      cases hp : p l[k]
      · rw [hp] at C1
        have HCL := Lib.hid C1
        have HP := Lib.hid hp
        clear C1 hp
        go_wp2_with fail
        refine (HCL.out _ hbw).mono ?_
        rintro e w1 ⟨rfl, hb1⟩
        go_wp2
        go_roundw
        case rel => exact ⟨k + 1, by omega, by go_num, below_next0 hbw hb1, fun j h h2 => by rcases Nat.lt_or_ge j k with h3 | h3; exact hno.out j h3 h2; obtain rfl : j = k := (by omega); exact HP.out⟩
        case measure => simp [intOf]; omega
      · rw [hp] at C1
        have HCL := Lib.hid C1
        have HP := Lib.hid hp
        clear C1 hp
        go_wp2_with fail
        refine (HCL.out _ hbw).mono ?_
        rintro e w1 ⟨rfl, hb1⟩
        go_wp2
        go_ret
        exact ⟨by rw [idxL_some hlt (fun j h => hno.out j h (by omega)) HP.out]; rfl, below_next0 hbw hb1⟩
    · go_wp2
      go_ret
      exact ⟨by rw [idxL_none (fun j h => hno.out j (by omega) h)]; rfl, hbw⟩
set_option maxHeartbeats 2000000 in
set_option maxRecDepth 100000 in
theorem idxCndC_any (p : Cnd → Bool) (fn : Nat) (q : Addr) (en : ∀ args w, (callFunc fn args).run Try.prog w = .ok (.enter fn args) w) (A : Option Addr) (c : Nat) (l : List Cnd) (w : World) (hc : l.length ≤ c) (hr : Kd.C kCnd w A l.length l) (hl : l.length ≤ 9223372036854775807)
    (hf : ∀ x ∈ l, ∀ W, Below w.heap.size w W → Calls Try.prog fn #[.agg #[.string x.key, .int .i64 x.mod], .pointer (some q)] W fun e w' => e = .returned (.bool (p x)) ∧ Below W.heap.size W w') :
    Calls Try.prog 175 #[.slice A l.length c, .func (.func fn) #[] #[.pointer (some q)]] w fun e w' => e = .returned (.int .i64 (idxL p l)) ∧ Below w.heap.size w w' := by
  have HC := Lib.hid hr
  have HF := Lib.hid hf
  clear hr hf
  go_enter Try.func175, Try.ntmps175
  go_wp2_with fail
  go_loopw [8] (fun i wr => ∃ k : Nat, k ≤ l.length ∧ i = .int .i64 k ∧ Below w.heap.size w wr ∧ Hid (∀ j (h : j < k) (h2 : j < l.length), p l[j] = false)) (fun i _ => l.length - (intOf i).toNat)
  case atStart => exact ⟨0, by omega, rfl, Below.refl _ _, fun j h => absurd h (by omega)⟩
  case round =>
    obtain ⟨k, hk, rfl, hbw, hno⟩ := hrel
    by_cases hlt : k < l.length
    · obtain ⟨ad, rfl, f0, f1⟩ := at_Cnd (Kd.C_below HC.out hbw) hlt
      have C1 := HF.out l[k] (List.getElem_mem hlt)
      have i0 : (0 : Int) ≤ (k : Int) := by omega
      have i1 : (k : Int) < (l.length : Int) := by omega
      cases hp : p l[k]
      · rw [hp] at C1
        have HCL := Lib.hid C1
        have HP := Lib.hid hp
        clear C1 hp
        go_wp2_with fail
        refine (HCL.out _ hbw).mono ?_
        rintro e w1 ⟨rfl, hb1⟩
        go_wp2
        go_roundw
        case rel => exact ⟨k + 1, by omega, by go_num, below_next0 hbw hb1, fun j h h2 => by rcases Nat.lt_or_ge j k with h3 | h3; exact hno.out j h3 h2; obtain rfl : j = k := (by omega); exact HP.out⟩
        case measure => simp [intOf]; omega
      · rw [hp] at C1
        have HCL := Lib.hid C1
        have HP := Lib.hid hp
        clear C1 hp
        go_wp2_with fail
        refine (HCL.out _ hbw).mono ?_
        rintro e w1 ⟨rfl, hb1⟩
        go_wp2
        go_ret
        exact ⟨by rw [idxL_some hlt (fun j h => hno.out j h (by omega)) HP.out]; rfl, below_next0 hbw hb1⟩
    · go_wp2
      go_ret
      exact ⟨by rw [idxL_none (fun j h => hno.out j (by omega) h)]; rfl, hbw⟩
set_option maxHeartbeats 2000000 in
set_option maxRecDepth 100000 in
theorem idxOpnC_any (p : Opn → Bool) (fn : Nat) (q : Addr) (en : ∀ args w, (callFunc fn args).run Try.prog w = .ok (.enter fn args) w) (A : Option Addr) (c : Nat) (l : List Opn) (w : World) (hc : l.length ≤ c) (hr : Kd.C kOpn w A l.length l) (hl : l.length ≤ 9223372036854775807)
    (hf : ∀ x ∈ l, ∀ W, Below w.heap.size w W → Calls Try.prog fn #[.agg #[.bool x.del, .string x.key, .string x.val], .pointer (some q)] W fun e w' => e = .returned (.bool (p x)) ∧ Below W.heap.size W w') :
    Calls Try.prog 176 #[.slice A l.length c, .func (.func fn) #[] #[.pointer (some q)]] w fun e w' => e = .returned (.int .i64 (idxL p l)) ∧ Below w.heap.size w w' := by
  have HC := Lib.hid hr
  have HF := Lib.hid hf
  clear hr hf
  go_enter Try.func176, Try.ntmps176
  go_wp2_with fail
  go_loopw [8] (fun i wr => ∃ k : Nat, k ≤ l.length ∧ i = .int .i64 k ∧ Below w.heap.size w wr ∧ Hid (∀ j (h : j < k) (h2 : j < l.length), p l[j] = false)) (fun i _ => l.length - (intOf i).toNat)
  case atStart => exact ⟨0, by omega, rfl, Below.refl _ _, fun j h => absurd h (by omega)⟩
  case round =>
    obtain ⟨k, hk, rfl, hbw, hno⟩ := hrel
    by_cases hlt : k < l.length
    · obtain ⟨ad, rfl, f0, f1, f2⟩ := at_Opn (Kd.C_below HC.out hbw) hlt
      have C1 := HF.out l[k] (List.getElem_mem hlt)
      have i0 : (0 : Int) ≤ (k : Int) := by omega
      have i1 : (k : Int) < (l.length : Int) := by omega
      cases hp : p l[k]
      · rw [hp] at C1
        have HCL := Lib.hid C1
        have HP := Lib.hid hp
        clear C1 hp
        go_wp2_with fail
        refine (HCL.out _ hbw).mono ?_
        rintro e w1 ⟨rfl, hb1⟩
        go_wp2
        go_roundw
        case rel => exact ⟨k + 1, by omega, by go_num, below_next0 hbw hb1, fun j h h2 => by rcases Nat.lt_or_ge j k with h3 | h3; exact hno.out j h3 h2; obtain rfl : j = k := (by omega); exact HP.out⟩
        case measure => simp [intOf]; omega
      · rw [hp] at C1
        have HCL := Lib.hid C1
        have HP := Lib.hid hp
        clear C1 hp
        go_wp2_with fail
        refine (HCL.out _ hbw).mono ?_
        rintro e w1 ⟨rfl, hb1⟩
        go_wp2
        go_ret
        exact ⟨by rw [idxL_some hlt (fun j h => hno.out j h (by omega)) HP.out]; rfl, below_next0 hbw hb1⟩
    · go_wp2
      go_ret
      exact ⟨by rw [idxL_none (fun j h => hno.out j (by omega) h)]; rfl, hbw⟩
set_option maxHeartbeats 2000000 in
set_option maxRecDepth 100000 in
theorem idxEvtC_any (p : Evt → Bool) (fn : Nat) (q : Addr) (en : ∀ args w, (callFunc fn args).run Try.prog w = .ok (.enter fn args) w) (A : Option Addr) (c : Nat) (l : List Evt) (w : World) (hc : l.length ≤ c) (hr : Kd.C kEvt w A l.length l) (hl : l.length ≤ 9223372036854775807)
    (hf : ∀ x ∈ l, ∀ W, Below w.heap.size w W → Calls Try.prog fn #[.agg #[.int .i64 x.rev, .bool x.del, .string x.key, .string x.val], .pointer (some q)] W fun e w' => e = .returned (.bool (p x)) ∧ Below W.heap.size W w') :
    Calls Try.prog 131 #[.slice A l.length c, .func (.func fn) #[] #[.pointer (some q)]] w fun e w' => e = .returned (.int .i64 (idxL p l)) ∧ Below w.heap.size w w' := by
  have HC := Lib.hid hr
  have HF := Lib.hid hf
  clear hr hf
  go_enter Try.func131, Try.ntmps131
  go_wp2_with fail
  go_loopw [8] (fun i wr => ∃ k : Nat, k ≤ l.length ∧ i = .int .i64 k ∧ Below w.heap.size w wr ∧ Hid (∀ j (h : j < k) (h2 : j < l.length), p l[j] = false)) (fun i _ => l.length - (intOf i).toNat)
  case atStart => exact ⟨0, by omega, rfl, Below.refl _ _, fun j h => absurd h (by omega)⟩
  case round =>
    obtain ⟨k, hk, rfl, hbw, hno⟩ := hrel
    by_cases hlt : k < l.length
    · obtain ⟨ad, rfl, f0, f1, f2, f3⟩ := at_Evt (Kd.C_below HC.out hbw) hlt
      have C1 := HF.out l[k] (List.getElem_mem hlt)
      have i0 : (0 : Int) ≤ (k : Int) := by omega
      have i1 : (k : Int) < (l.length : Int) := by omega
      cases hp : p l[k]
      · rw [hp] at C1
        have HCL := Lib.hid C1
        have HP := Lib.hid hp
        clear C1 hp
        go_wp2_with fail
        refine (HCL.out _ hbw).mono ?_
        rintro e w1 ⟨rfl, hb1⟩
        go_wp2
        go_roundw
        case rel => exact ⟨k + 1, by omega, by go_num, below_next0 hbw hb1, fun j h h2 => by rcases Nat.lt_or_ge j k with h3 | h3; exact hno.out j h3 h2; obtain rfl : j = k := (by omega); exact HP.out⟩
        case measure => simp [intOf]; omega
      · rw [hp] at C1
        have HCL := Lib.hid C1
        have HP := Lib.hid hp
        clear C1 hp
        go_wp2_with fail
        refine (HCL.out _ hbw).mono ?_
        rintro e w1 ⟨rfl, hb1⟩
        go_wp2
        go_ret
        exact ⟨by rw [idxL_some hlt (fun j h => hno.out j h (by omega)) HP.out]; rfl, below_next0 hbw hb1⟩
    · go_wp2
      go_ret
      exact ⟨by rw [idxL_none (fun j h => hno.out j (by omega) h)]; rfl, hbw⟩
set_option maxHeartbeats 2000000 in
set_option maxRecDepth 100000 in
theorem hasCnd_any (p : Cnd → Bool) (fn : Nat) (en : ∀ args w, (callFunc fn args).run Try.prog w = .ok (.enter fn args) w) (A : Option Addr) (c : Nat) (l : List Cnd) (w : World) (hc : l.length ≤ c) (hr : Kd.C kCnd w A l.length l) (hl : l.length ≤ 9223372036854775807)
    (hf : ∀ x ∈ l, ∀ W, Below w.heap.size w W → Calls Try.prog fn #[.agg #[.string x.key, .int .i64 x.mod]] W fun e w' => e = .returned (.bool (p x)) ∧ Below W.heap.size W w') :
    Calls Try.prog 121 #[.slice A l.length c, .func (.func fn) #[] #[]] w fun e w' => e = .returned (.bool (l.any p)) ∧ Below w.heap.size w w' := by
  have H := Lib.hid (idxCnd_any p fn en A c l w hc hr hl hf)
  clear hr hf
  have ha := Lib.hid (idxL_any (p := p) (l := l))
  generalize idxL p l = i at *
  go_enter Try.func121, Try.ntmps121
  go_wp2_with fail
  refine H.out.mono ?_
  rintro e w1 ⟨rfl, hb1⟩
  go_wp2
  go_ret
  exact ⟨by rw [← ha.out]; rfl, hb1⟩
set_option maxHeartbeats 2000000 in
set_option maxRecDepth 100000 in
theorem hasCndC_any (p : Cnd → Bool) (fn : Nat) (q : Addr) (en : ∀ args w, (callFunc fn args).run Try.prog w = .ok (.enter fn args) w) (A : Option Addr) (c : Nat) (l : List Cnd) (w : World) (hc : l.length ≤ c) (hr : Kd.C kCnd w A l.length l) (hl : l.length ≤ 9223372036854775807)
    (hf : ∀ x ∈ l, ∀ W, Below w.heap.size w W → Calls Try.prog fn #[.agg #[.string x.key, .int .i64 x.mod], .pointer (some q)] W fun e w' => e = .returned (.bool (p x)) ∧ Below W.heap.size W w') :
    Calls Try.prog 121 #[.slice A l.length c, .func (.func fn) #[] #[.pointer (some q)]] w fun e w' => e = .returned (.bool (l.any p)) ∧ Below w.heap.size w w' := by
  have H := Lib.hid (idxCndC_any p fn q en A c l w hc hr hl hf)
  clear hr hf
  have ha := Lib.hid (idxL_any (p := p) (l := l))
  generalize idxL p l = i at *
  go_enter Try.func121, Try.ntmps121
  go_wp2_with fail
  refine H.out.mono ?_
  rintro e w1 ⟨rfl, hb1⟩
  go_wp2
  go_ret
  exact ⟨by rw [← ha.out]; rfl, hb1⟩
set_option maxHeartbeats 2000000 in
set_option maxRecDepth 100000 in
theorem hasOpnC_any (p : Opn → Bool) (fn : Nat) (q : Addr) (en : ∀ args w, (callFunc fn args).run Try.prog w = .ok (.enter fn args) w) (A : Option Addr) (c : Nat) (l : List Opn) (w : World) (hc : l.length ≤ c) (hr : Kd.C kOpn w A l.length l) (hl : l.length ≤ 9223372036854775807)
    (hf : ∀ x ∈ l, ∀ W, Below w.heap.size w W → Calls Try.prog fn #[.agg #[.bool x.del, .string x.key, .string x.val], .pointer (some q)] W fun e w' => e = .returned (.bool (p x)) ∧ Below W.heap.size W w') :
    Calls Try.prog 126 #[.slice A l.length c, .func (.func fn) #[] #[.pointer (some q)]] w fun e w' => e = .returned (.bool (l.any p)) ∧ Below w.heap.size w w' := by
  have H := Lib.hid (idxOpnC_any p fn q en A c l w hc hr hl hf)
  clear hr hf
  have ha := Lib.hid (idxL_any (p := p) (l := l))
  generalize idxL p l = i at *
  go_enter Try.func126, Try.ntmps126
  go_wp2_with fail
  refine H.out.mono ?_
  rintro e w1 ⟨rfl, hb1⟩
  go_wp2
  go_ret
  exact ⟨by rw [← ha.out]; rfl, hb1⟩
def mayR (n : Int) : Bool := decide (0 ≤ n ∧ n ≤ 1099511627776)
def mayO (o : Opn) : Bool := isKey o.key.data.toList && (decide (o.val.size ≤ 128) && (!o.del || decide (o.val.toList = [])))
def badC (c : Cnd) : Bool := !isKey c.key.data.toList || !mayR c.mod
def opsOk (os : List Opn) : Nat → Bool
  | 0 => true
  | i + 1 => opsOk os i && (match os[i]? with | some o => mayO o && !(os.take i).any (fun q => q.key.toList == o.key.toList) | none => true)
def mayTx (cs : List Cnd) (os : List Opn) : Bool := decide (cs.length ≤ 8 ∧ os.length ≤ 8) && (!cs.any badC && opsOk os os.length)
theorem opsOk_succ {os : List Opn} {i : Nat} (h : i < os.length) : opsOk os (i + 1) = (opsOk os i && (mayO os[i] && !(os.take i).any (fun q => q.key.toList == os[i].key.toList))) := by
  simp only [opsOk, List.getElem?_eq_getElem h]
theorem opsOk_false {os : List Opn} {i : Nat} : ∀ {n : Nat}, i ≤ n → opsOk os i = false → opsOk os n = false
  | 0, h, hf => by obtain rfl : i = 0 := by omega
                   exact hf
  | n + 1, h, hf => by
    rcases Nat.lt_or_ge i (n + 1) with h1 | h1
    · simp only [opsOk, opsOk_false (n := n) (by omega) hf, Bool.false_and]
    · obtain rfl : i = n + 1 := by omega
      exact hf
theorem mayRev_any (n : Int) (w : World) : Calls Try.prog 124 #[.int .i64 n] w fun e w' => e = .returned (.bool (mayR n)) ∧ Below w.heap.size w w' := by
  unfold mayR
  by_cases h1 : 0 ≤ n
  · by_cases h2 : n ≤ 1099511627776
    · go_enter Try.func124, Try.ntmps124
      go_wp2
      go_ret
      exact ⟨by simp [h1, h2]; try omega, Below.refl _ _⟩
    · go_enter Try.func124, Try.ntmps124
      go_wp2
      go_ret
      exact ⟨by simp [h1, h2]; try omega, Below.refl _ _⟩
  · go_enter Try.func124, Try.ntmps124
    go_wp2
    go_ret
    exact ⟨by simp [h1]; try omega, Below.refl _ _⟩
set_option maxHeartbeats 2000000 in
set_option maxRecDepth 100000 in
theorem mayOp_any (o : Opn) (hs : o.key.size ≤ 9223372036854775807) (w : World) : Calls Try.prog 125 #[.agg #[.bool o.del, .string o.key, .string o.val]] w fun e w' => e = .returned (.bool (mayO o)) ∧ Below w.heap.size w w' := by
  obtain ⟨del, key, val⟩ := o
  have hk := fun W => (keysKey_big key hs W).mono fun _ _ h => And.intro h.1 h.2.below
  unfold mayO
  dsimp only at hk ⊢
  cases h1 : isKey key.data.toList
  all_goals rw [h1] at hk
  all_goals have HK := Lib.hid hk
  all_goals clear hk h1
  · go_enter Try.func125, Try.ntmps125
    go_wp2_with fail
    refine (HK.out _).mono ?_
    rintro e w1 ⟨rfl, hb⟩
    have HP := (hb.block w.heap.size (by simp)).trans (heap_alloc_new w (.cells #[.bool del, .string key, .string val] 85))
    have c0 := blk_cell HP 0
    have c1 := blk_cell HP 1
    have c2 := blk_cell HP 2
    simp only [List.getElem?_toArray, List.getElem?_cons_zero, List.getElem?_cons_succ] at c0 c1 c2
    have Bw := (below_alloc (Below.refl w.heap.size w) (.cells #[.bool del, .string key, .string val] 85)).trans (hb.mono (by simp))
    clear hb HP
    go_wp2
    go_ret
    exact ⟨by simp [], Bw⟩
  by_cases h2 : val.size ≤ 128
  · have h2' : (val.size : Int) ≤ 128 := by omega
    cases del
    · go_enter Try.func125, Try.ntmps125
      go_wp2_with fail
      refine (HK.out _).mono ?_
      rintro e w1 ⟨rfl, hb⟩
      have HP := (hb.block w.heap.size (by simp)).trans (heap_alloc_new w (.cells #[.bool false, .string key, .string val] 85))
      have c0 := blk_cell HP 0
      have c1 := blk_cell HP 1
      have c2 := blk_cell HP 2
      simp only [List.getElem?_toArray, List.getElem?_cons_zero, List.getElem?_cons_succ] at c0 c1 c2
      have Bw := (below_alloc (Below.refl w.heap.size w) (.cells #[.bool false, .string key, .string val] 85)).trans (hb.mono (by simp))
      clear hb HP
      go_wp2
      go_ret
      exact ⟨by simp [h2], Bw⟩
    · by_cases h3 : val.toList = []
      · have h4 : val.toList.isEmpty = true := by rw [h3]; rfl
        go_enter Try.func125, Try.ntmps125
        go_wp2_with fail
        refine (HK.out _).mono ?_
        rintro e w1 ⟨rfl, hb⟩
        have HP := (hb.block w.heap.size (by simp)).trans (heap_alloc_new w (.cells #[.bool true, .string key, .string val] 85))
        have c0 := blk_cell HP 0
        have c1 := blk_cell HP 1
        have c2 := blk_cell HP 2
        simp only [List.getElem?_toArray, List.getElem?_cons_zero, List.getElem?_cons_succ] at c0 c1 c2
        have Bw := (below_alloc (Below.refl w.heap.size w) (.cells #[.bool true, .string key, .string val] 85)).trans (hb.mono (by simp))
        clear hb HP
        go_wp2
        go_ret
        exact ⟨by simp [h2, h3], Bw⟩
      · have h4 : val.toList.isEmpty = false := List.isEmpty_eq_false_iff.2 h3
        go_enter Try.func125, Try.ntmps125
        go_wp2_with fail
        refine (HK.out _).mono ?_
        rintro e w1 ⟨rfl, hb⟩
        have HP := (hb.block w.heap.size (by simp)).trans (heap_alloc_new w (.cells #[.bool true, .string key, .string val] 85))
        have c0 := blk_cell HP 0
        have c1 := blk_cell HP 1
        have c2 := blk_cell HP 2
        simp only [List.getElem?_toArray, List.getElem?_cons_zero, List.getElem?_cons_succ] at c0 c1 c2
        have Bw := (below_alloc (Below.refl w.heap.size w) (.cells #[.bool true, .string key, .string val] 85)).trans (hb.mono (by simp))
        clear hb HP
        go_wp2
        go_ret
        exact ⟨by simp [h2, h3], Bw⟩
  · have h2' : ¬ (val.size : Int) ≤ 128 := by omega
    go_enter Try.func125, Try.ntmps125
    go_wp2_with fail
    refine (HK.out _).mono ?_
    rintro e w1 ⟨rfl, hb⟩
    have HP := (hb.block w.heap.size (by simp)).trans (heap_alloc_new w (.cells #[.bool del, .string key, .string val] 85))
    have c0 := blk_cell HP 0
    have c1 := blk_cell HP 1
    have c2 := blk_cell HP 2
    simp only [List.getElem?_toArray, List.getElem?_cons_zero, List.getElem?_cons_succ] at c0 c1 c2
    have Bw := (below_alloc (Below.refl w.heap.size w) (.cells #[.bool del, .string key, .string val] 85)).trans (hb.mono (by simp))
    clear hb HP
    go_wp2
    go_ret
    exact ⟨by simp [h2], Bw⟩
set_option maxHeartbeats 2000000 in
set_option maxRecDepth 100000 in
theorem mayC_any (x : Cnd) (hs : x.key.size ≤ 9223372036854775807) (w : World) : Calls Try.prog 122 #[.agg #[.string x.key, .int .i64 x.mod]] w fun e w' => e = .returned (.bool (badC x)) ∧ Below w.heap.size w w' := by
  obtain ⟨key, mod⟩ := x
  have hk := fun W => (keysKey_big key hs W).mono fun _ _ h => And.intro h.1 h.2.below
  have hm := fun W => mayRev_any mod W
  unfold badC
  dsimp only at hk ⊢
  generalize isKey key.data.toList = b1 at *
  generalize mayR mod = b2 at *
  have HK := Lib.hid hk
  have HM := Lib.hid hm
  clear hk hm
  cases b1
  · go_enter Try.func122, Try.ntmps122
    go_wp2_with fail
    refine (HK.out _).mono ?_
    rintro e w1 ⟨rfl, hb⟩
    have HP := (hb.block w.heap.size (by simp)).trans (heap_alloc_new w (.cells #[.string key, .int .i64 mod] 73))
    have c0 := blk_cell HP 0
    have c1 := blk_cell HP 1
    simp only [List.getElem?_toArray, List.getElem?_cons_zero, List.getElem?_cons_succ] at c0 c1
    have Bw := Lib.hid ((below_alloc (Below.refl w.heap.size w) (.cells #[.string key, .int .i64 mod] 73)).trans (hb.mono (by simp)))
    clear hb HP
    go_wp2
    go_ret
    exact ⟨by first | rfl | (simp; done), Bw.out⟩
  · go_enter Try.func122, Try.ntmps122
    go_wp2_with fail
    refine (HK.out _).mono ?_
    rintro e w1 ⟨rfl, hb⟩
    have HP := (hb.block w.heap.size (by simp)).trans (heap_alloc_new w (.cells #[.string key, .int .i64 mod] 73))
    have c0 := blk_cell HP 0
    have c1 := blk_cell HP 1
    simp only [List.getElem?_toArray, List.getElem?_cons_zero, List.getElem?_cons_succ] at c0 c1
    have Bw := Lib.hid ((below_alloc (Below.refl w.heap.size w) (.cells #[.string key, .int .i64 mod] 73)).trans (hb.mono (by simp)))
    clear hb HP
    go_wp2_with fail
    refine (HM.out _).mono ?_
    rintro e w2 ⟨rfl, hb2⟩
    have Bw2 := Lib.hid (below_next0 Bw.out hb2)
    clear hb2
    go_wp2
    go_ret
    exact ⟨by first | rfl | (simp; done), Bw2.out⟩
set_option maxHeartbeats 2000000 in
set_option maxRecDepth 100000 in
theorem sameKey_any (x : Opn) (b : Nat) (k : ByteArray) (w : World) (hq : w.cell? ⟨b, 1, none⟩ = some (.string k)) : Calls Try.prog 127 #[.agg #[.bool x.del, .string x.key, .string x.val], .pointer (some ⟨b, 0, none⟩)] w fun e w' => e = .returned (.bool (x.key.toList == k.toList)) ∧ Below w.heap.size w w' := by
  have hl := World.block_lt_of_cell? _ _ hq
  go_enter Try.func127, Try.ntmps127
  go_wp2
  go_ret
  exact ⟨by first | rfl | (simp; done), below_alloc (Below.refl _ _) _⟩
set_option maxHeartbeats 2000000 in
set_option maxRecDepth 100000 in
theorem mayTxn_any (A : Option Addr) (ca : Nat) (cs : List Cnd) (B : Option Addr) (cb : Nat) (os : List Opn) (w : World) (hca : cs.length ≤ ca) (hA : Kd.C kCnd w A cs.length cs) (hcb : os.length ≤ cb) (hB : Kd.C kOpn w B os.length os)
    (hs : (∀ x ∈ cs, x.key.size ≤ 9223372036854775807) ∧ ∀ x ∈ os, x.key.size ≤ 9223372036854775807) (hl : cs.length ≤ 1000000000 ∧ os.length ≤ 1000000000) :
    Calls Try.prog 50 #[.agg #[.slice A cs.length ca, .slice B os.length cb]] w fun e w' => e = .returned (.bool (mayTx cs os)) ∧ Below w.heap.size w w' := by
  unfold mayTx
  obtain ⟨hl1, hl2⟩ := hl
  have HS := Lib.hid hs
  have HA := Lib.hid hA
  have HB := Lib.hid hB
  clear hs hA hB
  by_cases h1 : cs.length ≤ 8
  · have i1 : (cs.length : Int) ≤ 8 := by omega
    by_cases h2 : os.length ≤ 8
    · have i2 : (os.length : Int) ≤ 8 := by omega
      have HH := Lib.hid (fun (W : World) (hW : Below w.heap.size w W) => hasCnd_any badC 122 (Go.Proofs.enters_of Try.func122 (by kernel_rfl) rfl) A ca cs W hca (Kd.C_below HA.out hW) (by omega) (fun x hx V _ => mayC_any x (HS.out.1 x hx) V))
      cases hb : cs.any badC
      · have HAny := Lib.hid hb
        clear hb
        go_enter Try.func50, Try.ntmps50
        go_wp2_with fail
        refine (HH.out _ (below_alloc (Below.refl _ _) (.cells #[.slice A cs.length ca, .slice B os.length cb] 34))).mono ?_
        rintro e w1 ⟨rfl, hq⟩
        rw [HAny.out]
        have HT := Lib.hid ((hq.block w.heap.size (by simp)).trans (heap_alloc_new w (.cells #[.slice A cs.length ca, .slice B os.length cb] 34)))
        have Bw := Lib.hid ((below_alloc (Below.refl w.heap.size w) (.cells #[.slice A cs.length ca, .slice B os.length cb] 34)).trans (hq.mono (by simp)))
        clear hq
        have t0 := blk_cell HT.out 0
        have t1 := blk_cell HT.out 1
        simp only [List.getElem?_toArray, List.getElem?_cons_zero, List.getElem?_cons_succ] at t0 t1
        go_wp2_with fail
        go_loopw [21] (fun i wr => ∃ k : Nat, k ≤ os.length ∧ i = .int .i64 k ∧ Below w1.heap.size w1 wr ∧ Hid (opsOk os k = true)) (fun i _ => os.length - (intOf i).toNat)
        case atStart => exact ⟨0, by omega, rfl, Below.refl _ _, rfl⟩
        case round =>
          obtain ⟨k, hk, rfl, hbw, hok⟩ := hrel
          have HBW := Lib.hid hbw
          by_cases hlt : k < os.length
          · have hBw := Lib.hid (Bw.out.trans (hbw.mono Bw.out.size))
            have HTr := (hbw.block _ (blk_lt HT.out)).trans HT.out
            have u0 := blk_cell HTr 0
            have u1 := blk_cell HTr 1
            have ul := blk_lt HTr
            simp only [List.getElem?_toArray, List.getElem?_cons_zero, List.getElem?_cons_succ] at u0 u1
            obtain ⟨ad, rfl, f0, f1, f2⟩ := at_Opn (Kd.C_below HB.out hBw.out) hlt
            have hx := HS.out.2 os[k] (List.getElem_mem hlt)
            have i0 : (0 : Int) ≤ (k : Int) := by omega
            have i3 : (k : Int) < (os.length : Int) := by omega
            have HSU := Lib.hid (opsOk_succ hlt)
            have ho := fun W => mayOp_any os[k] hx W
            clear t0 t1
            have icb : (os.length : Int) ≤ (cb : Int) := by omega
            generalize hxo : os[k] = x at *
            have HX := Lib.hid hxo
            clear hxo
            cases hm : mayO x
            · rw [hm] at ho
              have HO := Lib.hid ho
              have HM := Lib.hid hm
              clear ho hm
              go_wp2_with fail
              refine (HO.out _).mono ?_
              rintro e w2 ⟨rfl, hq⟩
              have B2 := Lib.hid ((below_alloc hBw.out (.cells #[.bool x.del, .string x.key, .string x.val] 85)).trans (hq.mono (by have := hBw.out.size; simp; omega)))
              clear hq
              go_wp2
              go_ret
              exact ⟨by have q := HSU.out; rw [HM.out] at q; rw [opsOk_false (n := os.length) (i := k + 1) (by omega) (by rw [q]; simp)]; simp, B2.out⟩
            · rw [hm] at ho
              have HO := Lib.hid ho
              have HM := Lib.hid hm
              clear ho hm
              go_wp2_with fail
              refine (HO.out _).mono ?_
              rintro e w2 ⟨rfl, hq⟩
              have B2 := Lib.hid ((below_alloc hBw.out (.cells #[.bool x.del, .string x.key, .string x.val] 85)).trans (hq.mono (by have := hBw.out.size; simp; omega)))
              have HOX := Lib.hid ((hq.block wr.heap.size (by simp)).trans (heap_alloc_new wr (.cells #[.bool x.del, .string x.key, .string x.val] 85)))
              have HT2 := (hq.block _ (by have := blk_lt HTr; simp; omega)).trans (blk_alloc HTr (.cells #[.bool x.del, .string x.key, .string x.val] 85))
              have B12 := Lib.hid ((below_alloc HBW.out (.cells #[.bool x.del, .string x.key, .string x.val] 85)).trans (hq.mono (by have := HBW.out.size; simp; omega)))
              clear hq u0 u1 ul
              have u0 := blk_cell HT2 0
              have u1 := blk_cell HT2 1
              have ul := blk_lt HT2
              have o1 := (blk_cell HOX.out 1)
              simp only [List.getElem?_toArray, List.getElem?_cons_zero, List.getElem?_cons_succ] at u0 u1 o1
              have hlen : (os.take k).length = k := by simp; omega
              have HC := hasOpnC_any (fun q => q.key.toList == x.key.toList) 127 ⟨wr.heap.size, 0, none⟩ (Go.Proofs.enters_of Try.func127 (by kernel_rfl) rfl) (some ad) cb (os.take k) w2 (by omega) (Kd.C_take (Kd.C_below HB.out B2.out) (by omega)) (by omega) (fun y _ V hV => sameKey_any y wr.heap.size x.key V ((hV.cell (p := ⟨wr.heap.size, 1, none⟩) (blk_lt HOX.out)).trans o1))
              rw [hlen] at HC
              clear o1 hlen
              cases ha : (os.take k).any (fun q => q.key.toList == x.key.toList)
              · rw [ha] at HC
                have HCC := Lib.hid HC
                have HAN := Lib.hid ha
                clear HC ha
                go_wp2_with fail
                refine HCC.out.mono ?_
                rintro e w3 ⟨rfl, hq⟩
                have B3 := Lib.hid (below_next0 B12.out hq)
                clear hq
                go_wp2
                go_roundw
                case rel => exact ⟨k + 1, by omega, by go_num, B3.out, by have q := HSU.out; rw [hok.out, HM.out, HAN.out] at q; exact q⟩
                case measure => simp [intOf]; omega
              · rw [ha] at HC
                have HCC := Lib.hid HC
                have HAN := Lib.hid ha
                clear HC ha
                go_wp2_with fail
                refine HCC.out.mono ?_
                rintro e w3 ⟨rfl, hq⟩
                have B3 := Lib.hid (below_next0 B12.out hq)
                clear hq
                go_wp2
                go_ret
                exact ⟨by have q := HSU.out; rw [HAN.out] at q; rw [opsOk_false (n := os.length) (i := k + 1) (by omega) (by rw [q]; simp)]; simp, Bw.out.trans (B3.out.mono Bw.out.size)⟩
          · go_wp2
            go_ret
            exact ⟨by obtain rfl : k = os.length := (by omega); rw [hok.out]; simp [h1, h2], Bw.out.trans (hbw.mono Bw.out.size)⟩
      · have HAny := Lib.hid hb
        clear hb
        go_enter Try.func50, Try.ntmps50
        go_wp2_with fail
        refine (HH.out _ (below_alloc (Below.refl _ _) (.cells #[.slice A cs.length ca, .slice B os.length cb] 34))).mono ?_
        rintro e w1 ⟨rfl, hq⟩
        rw [HAny.out]
        have HT := Lib.hid ((hq.block w.heap.size (by simp)).trans (heap_alloc_new w (.cells #[.slice A cs.length ca, .slice B os.length cb] 34)))
        have Bw := Lib.hid ((below_alloc (Below.refl w.heap.size w) (.cells #[.slice A cs.length ca, .slice B os.length cb] 34)).trans (hq.mono (by simp)))
        clear hq
        go_wp2
        go_ret
        exact ⟨by simp, Bw.out⟩
    · have i2 : ¬ (os.length : Int) ≤ 8 := by omega
      go_enter Try.func50, Try.ntmps50
      go_wp2
      go_ret
      exact ⟨by simp [h2], below_alloc (Below.refl _ _) _⟩
  · have i1 : ¬ (cs.length : Int) ≤ 8 := by omega
    go_enter Try.func50, Try.ntmps50
    go_wp2
    go_ret
    exact ⟨by simp [h1], below_alloc (Below.refl _ _) _⟩
end Go.Proofs.Ytobanhbjkomieaa.TA
end
