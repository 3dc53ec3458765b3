import Derived.Test.YtobanhbjkomieaaEVSv
import Derived.Test.YtobanhbjkomieaaRTSv
import Derived.Test.YtobanhbjkomieaaOQSv
namespace Go.Proofs.Ytobanhbjkomieaa.RP
open Go.RowKit Go.Proofs.Ytobanhbjkomieaa.PAll Go.Proofs.Ytobanhbjkomieaa.KP Go.Proofs.Ytobanhbjkomieaa.BP Go.Proofs.YtobanhbjkomieaaW.PrintWords Go.Proofs.YtobanhbjkomieaaW.PrintLast Go.Proofs.YtobanhbjkomieaaW.PrintMore
set_option linter.unusedSimpArgs false
set_option linter.unusedVariables false
theorem R_C {α : Type} {d : Kd α} {e : Nat} {W : World} {base : Nat} {ok : Nat → Prop} {A : Option Addr} {c : Nat} {xs : List α} (h : Kd.R d e W base ok (.slice A xs.length c) xs) : xs.length ≤ c ∧ Kd.C d W A xs.length xs := by
 obtain ⟨A', c', he, hl, hr⟩ := Kd.R_reads h
 injection he with h1 h2 h3
 subst h1 h3
 exact ⟨hl, hr⟩
theorem rl1_same (cs : List Cnd) (os : List Opn) (ho : os.length ≤ 1000) : ∀ (d i : Nat), i + d = os.length → Ev (fun k => PEl.batonref20_SameTxn.l1 k (i : Int) cs os cs os) true
 | 0, i, h => by
  refine Ev.step (f := fun _ => some true) (fun k => ?_) (Ev.now _)
  simp only [PEl.batonref20_SameTxn.l1]
  rw [if_neg (by omega)]
 | d + 1, i, h => by
  have ih := rl1_same cs os ho d (i + 1) (by omega)
  refine Ev.step (f := fun k => PEl.batonref20_SameTxn.l1 k ((i + 1 : Nat) : Int) cs os cs os) (fun k => ?_) ih
  simp only [PEl.batonref20_SameTxn.l1]
  rw [if_pos (by omega), if_pos (by omega), if_pos (by omega), if_neg (by simp), wrap_succ (by omega) (by omega)]
  rfl
theorem rl0_same (cs : List Cnd) (os : List Opn) (hc : cs.length ≤ 1000) (ho : os.length ≤ 1000) : ∀ (d i : Nat), i + d = cs.length → Ev (fun k => PEl.batonref20_SameTxn.l0 k (i : Int) cs os cs os) true
 | 0, i, h => by
  refine Ev.step (f := fun k => PEl.batonref20_SameTxn.l1 k ((0 : Nat) : Int) cs os cs os) (fun k => ?_) (rl1_same cs os ho os.length 0 (by omega))
  simp only [PEl.batonref20_SameTxn.l0]
  rw [if_neg (by omega)]
  rfl
 | d + 1, i, h => by
  have ih := rl0_same cs os hc ho d (i + 1) (by omega)
  refine Ev.step (f := fun k => PEl.batonref20_SameTxn.l0 k ((i + 1 : Nat) : Int) cs os cs os) (fun k => ?_) ih
  simp only [PEl.batonref20_SameTxn.l0]
  rw [if_pos (by omega), if_pos (by omega), if_pos (by omega), if_neg (by simp), wrap_succ (by omega) (by omega)]
  rfl
theorem rSame_ev (cs : List Cnd) (os : List Opn) (hc : cs.length ≤ 1000) (ho : os.length ≤ 1000) : Ev (fun k => PEl.batonref20_SameTxn.f k cs os cs os) true := by
 refine Ev.congr (fun k => ?_) (Ev.step (f := fun k => PEl.batonref20_SameTxn.l0 k ((0 : Nat) : Int) cs os cs os) (g := fun k => PEl.batonref20_SameTxn.j0 k false cs os cs os) (fun k => ?_) (rl0_same cs os hc ho cs.length 0 (by omega)))
 ·
  unfold PEl.batonref20_SameTxn.f
  rw [if_pos rfl]
  simp
 ·
  simp only [PEl.batonref20_SameTxn.j0]
  rw [if_neg (by simp)]
  rfl
theorem same_any (cs : List Cnd) (os : List Opn) (hc : cs.length ≤ 1000) (ho : os.length ≤ 1000) (A0 A1 B0 B1 : Option Addr) (a0 a1 b0 b1 : Nat) (base0 base1 base2 base3 : Nat) (W : World)
  (h0 : Kd.R PEl.k73 73 W base0 (fun _ => True) (.slice A0 cs.length a0) cs) (h1 : Kd.R PEl.k85 85 W base1 (fun _ => True) (.slice A1 os.length a1) os)
  (h2 : Kd.R PEl.k73 73 W base2 (fun _ => True) (.slice B0 cs.length b0) cs) (h3 : Kd.R PEl.k85 85 W base3 (fun _ => True) (.slice B1 os.length b1) os) :
  Calls Try.prog 27 #[.agg #[.slice A0 cs.length a0, .slice A1 os.length a1], .agg #[.slice B0 cs.length b0, .slice B1 os.length b1]] W fun e w' => e = .returned (.bool true) ∧ Below W.heap.size W w' :=
 ev_calls (g := fun k => PEl.batonref20_SameTxn.f k cs os cs os) (rSame_ev cs os hc ho) (fun k h => PEl.batonref20_SameTxn.calls k A0 a0 cs A1 a1 os B0 b0 cs B1 b1 os true W (R_C h0).2 (R_C h0).1 (R_C h1).2 (R_C h1).1 (R_C h2).2 (R_C h2).1 (R_C h3).2 (R_C h3).1 h)
def longS (a b c d : ByteArray) : Bool := decide (2000 < a.size ∨ 2000 < b.size ∨ 2000 < c.size ∨ 2000 < d.size)
theorem rlong_f (a b c d : ByteArray) : PEl.batonlaw20_long.f 5 [a, b, c, d] = some (longS a b c d) := by
 unfold longS
 have e0 : rdOf ByteArray.empty [a, b, c, d] 0 = a := rfl
 have e1 : rdOf ByteArray.empty [a, b, c, d] 1 = b := rfl
 have e2 : rdOf ByteArray.empty [a, b, c, d] 2 = c := rfl
 have e3 : rdOf ByteArray.empty [a, b, c, d] 3 = d := rfl
 have w0 : wrap64 (0 + 1) = 1 := by unfold wrap64; omega
 have w1 : wrap64 (1 + 1) = 2 := by unfold wrap64; omega
 have w2 : wrap64 (2 + 1) = 3 := by unfold wrap64; omega
 have w3 : wrap64 (3 + 1) = 4 := by unfold wrap64; omega
 simp only [PEl.batonlaw20_long.f, PEl.batonlaw20_long.l0, List.length_cons, List.length_nil, e0, e1, e2, e3, w0, w1, w2, w3]
 by_cases h0 : 2000 < a.size
 ·
  simp [h0]; omega
 ·
  by_cases h1 : 2000 < b.size
  ·
   simp [h0, h1]; omega
  ·
   by_cases h2 : 2000 < c.size
   ·
    simp [h0, h1, h2]; omega
   ·
    by_cases h3 : 2000 < d.size
    ·
     simp [h0, h1, h2, h3]; omega
    ·
     simp [h0, h1, h2, h3]
     rw [if_neg (by omega), if_neg (by omega), if_neg (by omega), if_neg (by omega)]
theorem C_four (a b c d : ByteArray) {g : Nat} {W : World} (h : W.heap[g]? = some (.cells #[.string a, .string b, .string c, .string d] 9 (0, 0))) : Kd.C Kd.string W (some ⟨g, 0, none⟩) ([a, b, c, d] : List ByteArray).length [a, b, c, d] := by
 refine ⟨rfl, by simp, fun _ => ⟨_, rfl, fun i p hp => ?_⟩⟩
 have hb := fun q => blk_cell h q
 match i, hp with
 | 0, hp => obtain rfl : a = p := Option.some.inj hp; exact ⟨_, rfl, rfl, fun q u hu => by match q, hu with | 0, hu => exact (hb 0).trans hu | q + 1, hu => simp at hu⟩
 | 1, hp => obtain rfl : b = p := Option.some.inj hp; exact ⟨_, rfl, rfl, fun q u hu => by match q, hu with | 0, hu => exact (hb 1).trans hu | q + 1, hu => simp at hu⟩
 | 2, hp => obtain rfl : c = p := Option.some.inj hp; exact ⟨_, rfl, rfl, fun q u hu => by match q, hu with | 0, hu => exact (hb 2).trans hu | q + 1, hu => simp at hu⟩
 | 3, hp => obtain rfl : d = p := Option.some.inj hp; exact ⟨_, rfl, rfl, fun q u hu => by match q, hu with | 0, hu => exact (hb 3).trans hu | q + 1, hu => simp at hu⟩
 | i + 4, hp => simp at hp
theorem long4_any (a b c d : ByteArray) (g : Nat) (W : World) (h : W.heap[g]? = some (.cells #[.string a, .string b, .string c, .string d] 9 (0, 0))) :
  Calls Try.prog 23 #[.slice (some ⟨g, 0, none⟩) 4 4] W fun e w' => e = .returned (.bool (longS a b c d)) ∧ Below W.heap.size W w' :=
 (PEl.batonlaw20_long.calls 5 (some ⟨g, 0, none⟩) 4 [a, b, c, d] _ W (C_four a b c d h) (by simp) (rlong_f a b c d)).mono fun _ _ h => ⟨h.1, h.2.below⟩
set_option maxHeartbeats 4000000 in
set_option maxRecDepth 100000 in
theorem first_any (w : World) : Calls Try.prog 101 #[] w fun e w' => e = .returned (knA ⟨#[114]⟩ 1 5 false true 1 1 1 1) ∧ Below w.heap.size w w' := by
 go_enter Try.func101, Try.ntmps101
 go_wp2
 refine bodyPost_ret (results_cell_row rfl _ _ w.heap.size 30 _ (0, 0) _ rfl (heap_alloc_new w _) Try.underlying30 rfl (by kernel_rfl)) rfl ?_
 exact ⟨rfl, below_alloc (Below.refl _ _) _⟩
theorem val_any (rep : ByteArray) (hr : rep.size ≤ 140737488351232) (ep tm : Int) (gone : Bool) (w : World) : Calls Try.prog 105 #[.string rep, .int .i64 ep, .int .i64 tm, .bool gone] w fun e w' => e = .returned (.string (rv rep ep tm gone)) ∧ Below w.heap.size w w' := by
 obtain ⟨er, h⟩ : ∃ er : Int, ∀ W, Calls Try.prog 82 #[.agg #[.string rep, .int .i64 ep, .int .i64 tm, .bool gone]] W fun e w' => e = .returned (.tuple #[.string (rv rep ep tm gone), .int .i64 er]) ∧ Below W.heap.size W w' := ⟨if mayRec rep ep tm then 0 else 4, fun W => by
  refine (refEncode_any rep hr ep tm gone W).mono fun e w' h => ⟨?_, h.2⟩
  rw [h.1]
  unfold encRes rv
  split <;> rfl⟩
 have H := Lib.hid h
 clear h
 go_enter Try.func105, Try.ntmps105
 go_wp2_with fail
 refine (H.out _).mono ?_
 rintro e w1 ⟨rfl, hb1⟩
 go_wp2
 go_ret
 exact ⟨rfl, hb1⟩
set_option maxHeartbeats 4000000 in
set_option maxRecDepth 100000 in
theorem tval_any (live eps : Int) (w : World) : Calls Try.prog 106 #[.int .i64 live, .int .i64 eps] w fun e w' => e = .returned (.string (tv live eps)) ∧ Below w.heap.size w w' := by
 obtain ⟨er, h⟩ : ∃ er : Int, ∀ W, Calls Try.prog 84 #[.agg #[.int .i64 live, .int .i64 eps]] W fun e w' => e = .returned (.tuple #[.string (tv live eps), .int .i64 er]) ∧ Below W.heap.size W w' := ⟨if mayTen live eps then 0 else 4, fun W => by
  refine (refEncodeTen_any live eps W).mono fun e w' h => ⟨?_, h.2⟩
  rw [h.1]
  unfold encTenRes tv
  split <;> rfl⟩
 have H := Lib.hid h
 clear h
 go_enter Try.func106, Try.ntmps106
 go_wp2_with fail
 refine (H.out _).mono ?_
 rintro e w1 ⟨rfl, hb1⟩
 go_wp2
 go_ret
 exact ⟨rfl, hb1⟩
theorem cutAB {goal : Prop} (Facts : Nat → Nat → World → Prop) {G : Nat → Nat → World → Prop} (main : (∀ A B W, Facts A B W → G A B W) → goal) (pf : ∀ A B W, Facts A B W → G A B W) : goal := main pf
theorem R_two2 {W : World} {A base : Nat} {x0 y0 : ByteArray} {x1 y1 : Int} (h : W.heap[A]? = some (.cells #[.string x0, .int .i64 x1, .string y0, .int .i64 y1] 73 (0, 0))) (hb : base ≤ A) {ok : Nat → Prop} (hok : ok A) :
  Kd.R PEl.k73 73 W base ok (.slice (some ⟨A, 0, none⟩) 2 2) [⟨x0, x1⟩, ⟨y0, y1⟩] :=
 ⟨fun k hk => by simp [Value.ownBlock] at hk; subst hk; exact hok, [.string x0, .int .i64 x1, .string y0, .int .i64 y1], ⟨by rfl, .inr ⟨A, 2, _, rfl, hb, h, by simp, by simp [maxLen], by rfl, by rfl⟩⟩,
  Reps.c2 (PEl.k73_mkM _ _ _ ⟨x0, x1⟩) (Reps.c2 (PEl.k73_mkM _ _ _ ⟨y0, y1⟩) (Reps.none _ _))⟩
theorem R_two3 {W : World} {A base : Nat} {x0 y0 : Bool} {x1 x2 y1 y2 : ByteArray} (h : W.heap[A]? = some (.cells #[.bool x0, .string x1, .string x2, .bool y0, .string y1, .string y2] 85 (0, 0))) (hb : base ≤ A) {ok : Nat → Prop} (hok : ok A) :
  Kd.R PEl.k85 85 W base ok (.slice (some ⟨A, 0, none⟩) 2 2) [⟨x0, x1, x2⟩, ⟨y0, y1, y2⟩] :=
 ⟨fun k hk => by simp [Value.ownBlock] at hk; subst hk; exact hok, [.bool x0, .string x1, .string x2, .bool y0, .string y1, .string y2], ⟨by rfl, .inr ⟨A, 2, _, rfl, hb, h, by simp, by simp [maxLen], by rfl, by rfl⟩⟩,
  Reps.c3 (PEl.k85_mkM _ _ _ ⟨x0, x1, x2⟩) (Reps.c3 (PEl.k85_mkM _ _ _ ⟨y0, y1, y2⟩) (Reps.none _ _))⟩
theorem row2_val {W : World} {base : Nat} {ok : Nat → Prop} {B : Option Addr} {c : Nat} {x y : Opn} (h : Kd.R PEl.k85 85 W base ok (.slice B 2 c) [x, y]) :
  ∃ g, B = some ⟨g, 0, none⟩ ∧ W.cell? ⟨g, 2, none⟩ = some (.string x.f2) ∧ W.cell? ⟨g, 5, none⟩ = some (.string y.f2) := by
 obtain ⟨g, cap, hv, _⟩ := Kd.R_form h (by simp)
 injection hv with hv
 subst hv
 obtain ⟨_, hC⟩ := R_C (xs := [x, y]) h
 obtain ⟨ad, he, hc⟩ := hC.2.2 (by simp)
 injection he with he
 subst he
 refine ⟨g, rfl, ?_, ?_⟩
 ·
  obtain ⟨cs, _, hK, hi⟩ := hc 0 x rfl
  rw [PEl.k85_open hK] at hi
  exact hi 2 _ rfl
 ·
  obtain ⟨cs, _, hK, hi⟩ := hc 1 y rfl
  rw [PEl.k85_open hK] at hi
  exact hi 2 _ rfl
theorem ex1 : electO ⟨#[]⟩ 0 0 false false 0 0 0 0 ⟨#[116]⟩ ⟨#[120]⟩ ⟨#[114]⟩ 5 2 = ([⟨⟨#[99, 47, 116, 47, 120]⟩, 0⟩, ⟨⟨#[116, 47, 116]⟩, 0⟩], [⟨false, ⟨#[99, 47, 116, 47, 120]⟩, rv ⟨#[114]⟩ 1 5 false⟩, ⟨false, ⟨#[116, 47, 116]⟩, tv 1 1⟩], 0) := by kernel_rfl
theorem ex2 : renewO ⟨#[114]⟩ 1 5 false true 1 1 1 1 ⟨#[116]⟩ ⟨#[120]⟩ 9 = ([⟨⟨#[99, 47, 116, 47, 120]⟩, 1⟩], [⟨false, ⟨#[99, 47, 116, 47, 120]⟩, rv ⟨#[114]⟩ 1 9 false⟩], 0) := by kernel_rfl
theorem ex3 : renewO ⟨#[114]⟩ 1 5 false true 1 1 1 1 ⟨#[116]⟩ ⟨#[120]⟩ 5 = ([], [], 46) := by kernel_rfl
theorem ex4 : buryO ⟨#[114]⟩ 1 5 false true 1 1 1 1 ⟨#[116]⟩ ⟨#[120]⟩ 9 = ([⟨⟨#[99, 47, 116, 47, 120]⟩, 1⟩, ⟨⟨#[116, 47, 116]⟩, 1⟩], [⟨false, ⟨#[99, 47, 116, 47, 120]⟩, rv ⟨#[114]⟩ 1 9 true⟩, ⟨false, ⟨#[116, 47, 116]⟩, tv 0 1⟩], 0) := by kernel_rfl
theorem ex5 : sweepO ⟨#[114]⟩ 1 5 false true 1 1 1 1 ⟨#[116]⟩ ⟨#[120]⟩ = ([], [], 46) := by kernel_rfl
set_option maxHeartbeats 4000000 in
set_option maxRecDepth 100000 in
theorem eawake_any (w : World) : Calls Try.prog 24 #[] w fun e w' => e = .returned (.bool true) ∧ Below w.heap.size w w' := by
 have e1 := fun W => elect_any ⟨#[]⟩ (by decide) 0 0 false false 0 0 0 0 ⟨#[116]⟩ ⟨#[120]⟩ ⟨#[114]⟩ (by decide) (by decide) (by decide) 5 2 W
 rw [ex1] at e1
 have E1 := Lib.hid e1
 have e2 := fun W => renew_any ⟨#[114]⟩ (by decide) 1 5 false true 1 1 1 1 ⟨#[116]⟩ ⟨#[120]⟩ (by decide) (by decide) 9 W
 rw [ex2] at e2
 have E2 := Lib.hid e2
 have e3 := fun W => renew_any ⟨#[114]⟩ (by decide) 1 5 false true 1 1 1 1 ⟨#[116]⟩ ⟨#[120]⟩ (by decide) (by decide) 5 W
 rw [ex3] at e3
 have E3 := Lib.hid e3
 have e4 := fun W => bury_any ⟨#[114]⟩ (by decide) 1 5 false true 1 1 1 1 ⟨#[116]⟩ ⟨#[120]⟩ (by decide) (by decide) 9 W
 rw [ex4] at e4
 have E4 := Lib.hid e4
 have e5 := fun W => sweep_any ⟨#[114]⟩ (by decide) 1 5 false true 1 1 1 1 ⟨#[116]⟩ ⟨#[120]⟩ (by decide) (by decide) W
 rw [ex5] at e5
 have E5 := Lib.hid e5
 clear e1 e2 e3 e4 e5
 go_enter Try.func24, Try.ntmps24
 go_wp2_with fail
 refine (first_any _).mono ?_
 rintro e w1 ⟨rfl, hb⟩
 have HB_1 := Lib.hid (below_next0 (Below.refl w.heap.size w) hb)
 clear hb
 go_wp2_with fail
 have G_2 := Lib.hid (show w.heap.size ≤ w1.heap.size from by have q := HB_1.out.size; (try simp at q); omega)
 have HB_3 := Lib.hid (show Below w.heap.size w (w1.alloc (.cells #[.string ⟨#[114]⟩, .int .i64 1, .int .i64 5, .bool false, .bool true, .int .i64 1, .int .i64 1, .int .i64 1, .int .i64 1] 30)) from below_alloc HB_1.out (.cells #[.string ⟨#[114]⟩, .int .i64 1, .int .i64 5, .bool false, .bool true, .int .i64 1, .int .i64 1, .int .i64 1, .int .i64 1] 30))
 have HK_4 := Lib.hid (show (w1.alloc (.cells #[.string ⟨#[114]⟩, .int .i64 1, .int .i64 5, .bool false, .bool true, .int .i64 1, .int .i64 1, .int .i64 1, .int .i64 1] 30)).heap[w1.heap.size]? = some (.cells #[.string ⟨#[114]⟩, .int .i64 1, .int .i64 5, .bool false, .bool true, .int .i64 1, .int .i64 1, .int .i64 1, .int .i64 1] 30 (0, 0)) from heap_alloc_new w1 (.cells #[.string ⟨#[114]⟩, .int .i64 1, .int .i64 5, .bool false, .bool true, .int .i64 1, .int .i64 1, .int .i64 1, .int .i64 1] 30))
 generalize (w1.alloc (.cells #[.string ⟨#[114]⟩, .int .i64 1, .int .i64 5, .bool false, .bool true, .int .i64 1, .int .i64 1, .int .i64 1, .int .i64 1] 30)) = w2 at *
 refine (E1.out _).mono ?_
 rintro e w3 ⟨v0, v1, rfl, hR0, hR1, hb⟩
 obtain ⟨Ap, cap, rfl⟩ := Kd.R_slice hR0
 obtain ⟨Bp, cbp, rfl⟩ := Kd.R_slice hR1
 have HK_5 := Lib.hid ((hb.block _ (blk_lt HK_4.out)).trans HK_4.out)
 have HRp0_6 := Lib.hid (Kd.R_lower hR0 HB_3.out.size)
 have HRp1_7 := Lib.hid (Kd.R_lower hR1 HB_3.out.size)
 have HB_8 := Lib.hid (below_next0 HB_3.out hb)
 clear hb hR0 hR1
 have zK0 := blk_cell HK_5.out 0
 have zK1 := blk_cell HK_5.out 1
 have zK2 := blk_cell HK_5.out 2
 have zK3 := blk_cell HK_5.out 3
 have zK4 := blk_cell HK_5.out 4
 have zK5 := blk_cell HK_5.out 5
 have zK6 := blk_cell HK_5.out 6
 have zK7 := blk_cell HK_5.out 7
 have zK8 := blk_cell HK_5.out 8
 have lK := blk_lt HK_5.out
 simp only [List.getElem?_toArray, List.getElem?_cons_zero, List.getElem?_cons_succ] at zK0 zK1 zK2 zK3 zK4 zK5 zK6 zK7 zK8
 go_wp2_with fail
 clear zK0 zK1 zK2 zK3 zK4 zK5 zK6 zK7 zK8 lK
 have G_9 := Lib.hid (show w.heap.size ≤ w3.heap.size from by have q := HB_8.out.size; (try simp at q); omega)
 have HB_10 := Lib.hid (show Below w.heap.size w (w3.alloc (.cells #[.slice Ap 2 cap, .slice Bp 2 cbp] 34)) from below_alloc HB_8.out (.cells #[.slice Ap 2 cap, .slice Bp 2 cbp] 34))
 have HK_11 := Lib.hid (show (w3.alloc (.cells #[.slice Ap 2 cap, .slice Bp 2 cbp] 34)).heap[w1.heap.size]? = _ from blk_alloc HK_5.out (.cells #[.slice Ap 2 cap, .slice Bp 2 cbp] 34))
 have HTp_12 := Lib.hid (show (w3.alloc (.cells #[.slice Ap 2 cap, .slice Bp 2 cbp] 34)).heap[w3.heap.size]? = some (.cells #[.slice Ap 2 cap, .slice Bp 2 cbp] 34 (0, 0)) from heap_alloc_new w3 (.cells #[.slice Ap 2 cap, .slice Bp 2 cbp] 34))
 have HRp0_13 := Lib.hid (Kd.R_alloc HRp0_6.out (.cells #[.slice Ap 2 cap, .slice Bp 2 cbp] 34))
 have HRp1_14 := Lib.hid (Kd.R_alloc HRp1_7.out (.cells #[.slice Ap 2 cap, .slice Bp 2 cbp] 34))
 generalize (w3.alloc (.cells #[.slice Ap 2 cap, .slice Bp 2 cbp] 34)) = w4 at *
 refine (E2.out _).mono ?_
 rintro e w5 ⟨v0, v1, rfl, hR0, hR1, hb⟩
 obtain ⟨Aq, caq, rfl⟩ := Kd.R_slice hR0
 obtain ⟨Bq, cbq, rfl⟩ := Kd.R_slice hR1
 have HK_15 := Lib.hid ((hb.block _ (blk_lt HK_11.out)).trans HK_11.out)
 have HTp_16 := Lib.hid ((hb.block _ (blk_lt HTp_12.out)).trans HTp_12.out)
 have HRp0_17 := Lib.hid (Kd.R_below HRp0_13.out hb)
 have HRp1_18 := Lib.hid (Kd.R_below HRp1_14.out hb)
 have HRq0_19 := Lib.hid (Kd.R_lower hR0 HB_10.out.size)
 have HRq1_20 := Lib.hid (Kd.R_lower hR1 HB_10.out.size)
 have HB_21 := Lib.hid (below_next0 HB_10.out hb)
 clear hb hR0 hR1
 have zK0 := blk_cell HK_15.out 0
 have zK1 := blk_cell HK_15.out 1
 have zK2 := blk_cell HK_15.out 2
 have zK3 := blk_cell HK_15.out 3
 have zK4 := blk_cell HK_15.out 4
 have zK5 := blk_cell HK_15.out 5
 have zK6 := blk_cell HK_15.out 6
 have zK7 := blk_cell HK_15.out 7
 have zK8 := blk_cell HK_15.out 8
 have lK := blk_lt HK_15.out
 simp only [List.getElem?_toArray, List.getElem?_cons_zero, List.getElem?_cons_succ] at zK0 zK1 zK2 zK3 zK4 zK5 zK6 zK7 zK8
 go_wp2_with fail
 clear zK0 zK1 zK2 zK3 zK4 zK5 zK6 zK7 zK8 lK
 have N_22 := Lib.hid (show w3.heap.size ≠ w5.heap.size from by have q := blk_lt HTp_16.out; (try simp at q); omega)
 have G_23 := Lib.hid (show w.heap.size ≤ w5.heap.size from by have q := HB_21.out.size; (try simp at q); omega)
 have HB_24 := Lib.hid (show Below w.heap.size w (w5.alloc (.cells #[.slice Aq 1 caq, .slice Bq 1 cbq] 34)) from below_alloc HB_21.out (.cells #[.slice Aq 1 caq, .slice Bq 1 cbq] 34))
 have HK_25 := Lib.hid (show (w5.alloc (.cells #[.slice Aq 1 caq, .slice Bq 1 cbq] 34)).heap[w1.heap.size]? = _ from blk_alloc HK_15.out (.cells #[.slice Aq 1 caq, .slice Bq 1 cbq] 34))
 have HTp_26 := Lib.hid (show (w5.alloc (.cells #[.slice Aq 1 caq, .slice Bq 1 cbq] 34)).heap[w3.heap.size]? = _ from blk_alloc HTp_16.out (.cells #[.slice Aq 1 caq, .slice Bq 1 cbq] 34))
 have HTq_27 := Lib.hid (show (w5.alloc (.cells #[.slice Aq 1 caq, .slice Bq 1 cbq] 34)).heap[w5.heap.size]? = some (.cells #[.slice Aq 1 caq, .slice Bq 1 cbq] 34 (0, 0)) from heap_alloc_new w5 (.cells #[.slice Aq 1 caq, .slice Bq 1 cbq] 34))
 have HRp0_28 := Lib.hid (Kd.R_alloc HRp0_17.out (.cells #[.slice Aq 1 caq, .slice Bq 1 cbq] 34))
 have HRp1_29 := Lib.hid (Kd.R_alloc HRp1_18.out (.cells #[.slice Aq 1 caq, .slice Bq 1 cbq] 34))
 have HRq0_30 := Lib.hid (Kd.R_alloc HRq0_19.out (.cells #[.slice Aq 1 caq, .slice Bq 1 cbq] 34))
 have HRq1_31 := Lib.hid (Kd.R_alloc HRq1_20.out (.cells #[.slice Aq 1 caq, .slice Bq 1 cbq] 34))
 generalize (w5.alloc (.cells #[.slice Aq 1 caq, .slice Bq 1 cbq] 34)) = w6 at *
 refine (E3.out _).mono ?_
 rintro e w7 ⟨v0, v1, rfl, hR0, hR1, hb⟩
 obtain ⟨Ar, car, rfl⟩ := Kd.R_slice hR0
 obtain ⟨Br, cbr, rfl⟩ := Kd.R_slice hR1
 have HK_32 := Lib.hid ((hb.block _ (blk_lt HK_25.out)).trans HK_25.out)
 have HTp_33 := Lib.hid ((hb.block _ (blk_lt HTp_26.out)).trans HTp_26.out)
 have HTq_34 := Lib.hid ((hb.block _ (blk_lt HTq_27.out)).trans HTq_27.out)
 have HRp0_35 := Lib.hid (Kd.R_below HRp0_28.out hb)
 have HRp1_36 := Lib.hid (Kd.R_below HRp1_29.out hb)
 have HRq0_37 := Lib.hid (Kd.R_below HRq0_30.out hb)
 have HRq1_38 := Lib.hid (Kd.R_below HRq1_31.out hb)
 have HB_39 := Lib.hid (below_next0 HB_24.out hb)
 clear hb
 clear hR0 hR1
 have zK0 := blk_cell HK_32.out 0
 have zK1 := blk_cell HK_32.out 1
 have zK2 := blk_cell HK_32.out 2
 have zK3 := blk_cell HK_32.out 3
 have zK4 := blk_cell HK_32.out 4
 have zK5 := blk_cell HK_32.out 5
 have zK6 := blk_cell HK_32.out 6
 have zK7 := blk_cell HK_32.out 7
 have zK8 := blk_cell HK_32.out 8
 have lK := blk_lt HK_32.out
 simp only [List.getElem?_toArray, List.getElem?_cons_zero, List.getElem?_cons_succ] at zK0 zK1 zK2 zK3 zK4 zK5 zK6 zK7 zK8
 go_wp2_with fail
 clear zK0 zK1 zK2 zK3 zK4 zK5 zK6 zK7 zK8 lK
 have N_40 := Lib.hid (show w3.heap.size ≠ w7.heap.size from by have q := blk_lt HTp_33.out; (try simp at q); omega)
 have N_41 := Lib.hid (show w5.heap.size ≠ w7.heap.size from by have q := blk_lt HTq_34.out; (try simp at q); omega)
 have G_42 := Lib.hid (show w.heap.size ≤ w7.heap.size from by have q := HB_39.out.size; (try simp at q); omega)
 have HB_43 := Lib.hid (show Below w.heap.size w (w7.alloc (.cells #[.slice Ar 0 car, .slice Br 0 cbr] 34)) from below_alloc HB_39.out (.cells #[.slice Ar 0 car, .slice Br 0 cbr] 34))
 have HK_44 := Lib.hid (show (w7.alloc (.cells #[.slice Ar 0 car, .slice Br 0 cbr] 34)).heap[w1.heap.size]? = _ from blk_alloc HK_32.out (.cells #[.slice Ar 0 car, .slice Br 0 cbr] 34))
 have HTp_45 := Lib.hid (show (w7.alloc (.cells #[.slice Ar 0 car, .slice Br 0 cbr] 34)).heap[w3.heap.size]? = _ from blk_alloc HTp_33.out (.cells #[.slice Ar 0 car, .slice Br 0 cbr] 34))
 have HTq_46 := Lib.hid (show (w7.alloc (.cells #[.slice Ar 0 car, .slice Br 0 cbr] 34)).heap[w5.heap.size]? = _ from blk_alloc HTq_34.out (.cells #[.slice Ar 0 car, .slice Br 0 cbr] 34))
 have HTr_47 := Lib.hid (show (w7.alloc (.cells #[.slice Ar 0 car, .slice Br 0 cbr] 34)).heap[w7.heap.size]? = some (.cells #[.slice Ar 0 car, .slice Br 0 cbr] 34 (0, 0)) from heap_alloc_new w7 (.cells #[.slice Ar 0 car, .slice Br 0 cbr] 34))
 have HRp0_48 := Lib.hid (Kd.R_alloc HRp0_35.out (.cells #[.slice Ar 0 car, .slice Br 0 cbr] 34))
 have HRp1_49 := Lib.hid (Kd.R_alloc HRp1_36.out (.cells #[.slice Ar 0 car, .slice Br 0 cbr] 34))
 have HRq0_50 := Lib.hid (Kd.R_alloc HRq0_37.out (.cells #[.slice Ar 0 car, .slice Br 0 cbr] 34))
 have HRq1_51 := Lib.hid (Kd.R_alloc HRq1_38.out (.cells #[.slice Ar 0 car, .slice Br 0 cbr] 34))
 generalize (w7.alloc (.cells #[.slice Ar 0 car, .slice Br 0 cbr] 34)) = w8 at *
 refine (E4.out _).mono ?_
 rintro e w9 ⟨v0, v1, rfl, hR0, hR1, hb⟩
 obtain ⟨As, cas, rfl⟩ := Kd.R_slice hR0
 obtain ⟨Bs, cbs, rfl⟩ := Kd.R_slice hR1
 have HK_52 := Lib.hid ((hb.block _ (blk_lt HK_44.out)).trans HK_44.out)
 have HTp_53 := Lib.hid ((hb.block _ (blk_lt HTp_45.out)).trans HTp_45.out)
 have HTq_54 := Lib.hid ((hb.block _ (blk_lt HTq_46.out)).trans HTq_46.out)
 have HTr_55 := Lib.hid ((hb.block _ (blk_lt HTr_47.out)).trans HTr_47.out)
 have HRp0_56 := Lib.hid (Kd.R_below HRp0_48.out hb)
 have HRp1_57 := Lib.hid (Kd.R_below HRp1_49.out hb)
 have HRq0_58 := Lib.hid (Kd.R_below HRq0_50.out hb)
 have HRq1_59 := Lib.hid (Kd.R_below HRq1_51.out hb)
 have HRs0_60 := Lib.hid (Kd.R_lower hR0 HB_43.out.size)
 have HRs1_61 := Lib.hid (Kd.R_lower hR1 HB_43.out.size)
 have HB_62 := Lib.hid (below_next0 HB_43.out hb)
 clear hb hR0 hR1
 have zK0 := blk_cell HK_52.out 0
 have zK1 := blk_cell HK_52.out 1
 have zK2 := blk_cell HK_52.out 2
 have zK3 := blk_cell HK_52.out 3
 have zK4 := blk_cell HK_52.out 4
 have zK5 := blk_cell HK_52.out 5
 have zK6 := blk_cell HK_52.out 6
 have zK7 := blk_cell HK_52.out 7
 have zK8 := blk_cell HK_52.out 8
 have lK := blk_lt HK_52.out
 simp only [List.getElem?_toArray, List.getElem?_cons_zero, List.getElem?_cons_succ] at zK0 zK1 zK2 zK3 zK4 zK5 zK6 zK7 zK8
 go_wp2_with fail
 clear zK0 zK1 zK2 zK3 zK4 zK5 zK6 zK7 zK8 lK
 have N_63 := Lib.hid (show w3.heap.size ≠ w9.heap.size from by have q := blk_lt HTp_53.out; (try simp at q); omega)
 have N_64 := Lib.hid (show w5.heap.size ≠ w9.heap.size from by have q := blk_lt HTq_54.out; (try simp at q); omega)
 have N_65 := Lib.hid (show w7.heap.size ≠ w9.heap.size from by have q := blk_lt HTr_55.out; (try simp at q); omega)
 have G_66 := Lib.hid (show w.heap.size ≤ w9.heap.size from by have q := HB_62.out.size; (try simp at q); omega)
 have HB_67 := Lib.hid (show Below w.heap.size w (w9.alloc (.cells #[.slice As 2 cas, .slice Bs 2 cbs] 34)) from below_alloc HB_62.out (.cells #[.slice As 2 cas, .slice Bs 2 cbs] 34))
 have HK_68 := Lib.hid (show (w9.alloc (.cells #[.slice As 2 cas, .slice Bs 2 cbs] 34)).heap[w1.heap.size]? = _ from blk_alloc HK_52.out (.cells #[.slice As 2 cas, .slice Bs 2 cbs] 34))
 have HTp_69 := Lib.hid (show (w9.alloc (.cells #[.slice As 2 cas, .slice Bs 2 cbs] 34)).heap[w3.heap.size]? = _ from blk_alloc HTp_53.out (.cells #[.slice As 2 cas, .slice Bs 2 cbs] 34))
 have HTq_70 := Lib.hid (show (w9.alloc (.cells #[.slice As 2 cas, .slice Bs 2 cbs] 34)).heap[w5.heap.size]? = _ from blk_alloc HTq_54.out (.cells #[.slice As 2 cas, .slice Bs 2 cbs] 34))
 have HTr_71 := Lib.hid (show (w9.alloc (.cells #[.slice As 2 cas, .slice Bs 2 cbs] 34)).heap[w7.heap.size]? = _ from blk_alloc HTr_55.out (.cells #[.slice As 2 cas, .slice Bs 2 cbs] 34))
 have HTs_72 := Lib.hid (show (w9.alloc (.cells #[.slice As 2 cas, .slice Bs 2 cbs] 34)).heap[w9.heap.size]? = some (.cells #[.slice As 2 cas, .slice Bs 2 cbs] 34 (0, 0)) from heap_alloc_new w9 (.cells #[.slice As 2 cas, .slice Bs 2 cbs] 34))
 have HRp0_73 := Lib.hid (Kd.R_alloc HRp0_56.out (.cells #[.slice As 2 cas, .slice Bs 2 cbs] 34))
 have HRp1_74 := Lib.hid (Kd.R_alloc HRp1_57.out (.cells #[.slice As 2 cas, .slice Bs 2 cbs] 34))
 have HRq0_75 := Lib.hid (Kd.R_alloc HRq0_58.out (.cells #[.slice As 2 cas, .slice Bs 2 cbs] 34))
 have HRq1_76 := Lib.hid (Kd.R_alloc HRq1_59.out (.cells #[.slice As 2 cas, .slice Bs 2 cbs] 34))
 have HRs0_77 := Lib.hid (Kd.R_alloc HRs0_60.out (.cells #[.slice As 2 cas, .slice Bs 2 cbs] 34))
 have HRs1_78 := Lib.hid (Kd.R_alloc HRs1_61.out (.cells #[.slice As 2 cas, .slice Bs 2 cbs] 34))
 generalize (w9.alloc (.cells #[.slice As 2 cas, .slice Bs 2 cbs] 34)) = w10 at *
 refine (E5.out _).mono ?_
 rintro e w11 ⟨v0, v1, rfl, hR0, hR1, hb⟩
 obtain ⟨At, cat, rfl⟩ := Kd.R_slice hR0
 obtain ⟨Bt, cbt, rfl⟩ := Kd.R_slice hR1
 have HK_79 := Lib.hid ((hb.block _ (blk_lt HK_68.out)).trans HK_68.out)
 have HTp_80 := Lib.hid ((hb.block _ (blk_lt HTp_69.out)).trans HTp_69.out)
 have HTq_81 := Lib.hid ((hb.block _ (blk_lt HTq_70.out)).trans HTq_70.out)
 have HTr_82 := Lib.hid ((hb.block _ (blk_lt HTr_71.out)).trans HTr_71.out)
 have HTs_83 := Lib.hid ((hb.block _ (blk_lt HTs_72.out)).trans HTs_72.out)
 have HRp0_84 := Lib.hid (Kd.R_below HRp0_73.out hb)
 have HRp1_85 := Lib.hid (Kd.R_below HRp1_74.out hb)
 have HRq0_86 := Lib.hid (Kd.R_below HRq0_75.out hb)
 have HRq1_87 := Lib.hid (Kd.R_below HRq1_76.out hb)
 have HRs0_88 := Lib.hid (Kd.R_below HRs0_77.out hb)
 have HRs1_89 := Lib.hid (Kd.R_below HRs1_78.out hb)
 have HB_90 := Lib.hid (below_next0 HB_67.out hb)
 clear hb
 clear hR0 hR1
 go_wp2_with fail
 have N_91 := Lib.hid (show w3.heap.size ≠ w11.heap.size from by have q := blk_lt HTp_80.out; (try simp at q); omega)
 have N_92 := Lib.hid (show w5.heap.size ≠ w11.heap.size from by have q := blk_lt HTq_81.out; (try simp at q); omega)
 have N_93 := Lib.hid (show w7.heap.size ≠ w11.heap.size from by have q := blk_lt HTr_82.out; (try simp at q); omega)
 have N_94 := Lib.hid (show w9.heap.size ≠ w11.heap.size from by have q := blk_lt HTs_83.out; (try simp at q); omega)
 have G_95 := Lib.hid (show w.heap.size ≤ w11.heap.size from by have q := HB_90.out.size; (try simp at q); omega)
 have HB_96 := Lib.hid (show Below w.heap.size w (w11.alloc (.cells #[.slice At 0 cat, .slice Bt 0 cbt] 34)) from below_alloc HB_90.out (.cells #[.slice At 0 cat, .slice Bt 0 cbt] 34))
 have HK_97 := Lib.hid (show (w11.alloc (.cells #[.slice At 0 cat, .slice Bt 0 cbt] 34)).heap[w1.heap.size]? = _ from blk_alloc HK_79.out (.cells #[.slice At 0 cat, .slice Bt 0 cbt] 34))
 have HTp_98 := Lib.hid (show (w11.alloc (.cells #[.slice At 0 cat, .slice Bt 0 cbt] 34)).heap[w3.heap.size]? = _ from blk_alloc HTp_80.out (.cells #[.slice At 0 cat, .slice Bt 0 cbt] 34))
 have HTq_99 := Lib.hid (show (w11.alloc (.cells #[.slice At 0 cat, .slice Bt 0 cbt] 34)).heap[w5.heap.size]? = _ from blk_alloc HTq_81.out (.cells #[.slice At 0 cat, .slice Bt 0 cbt] 34))
 have HTr_100 := Lib.hid (show (w11.alloc (.cells #[.slice At 0 cat, .slice Bt 0 cbt] 34)).heap[w7.heap.size]? = _ from blk_alloc HTr_82.out (.cells #[.slice At 0 cat, .slice Bt 0 cbt] 34))
 have HTs_101 := Lib.hid (show (w11.alloc (.cells #[.slice At 0 cat, .slice Bt 0 cbt] 34)).heap[w9.heap.size]? = _ from blk_alloc HTs_83.out (.cells #[.slice At 0 cat, .slice Bt 0 cbt] 34))
 have HTt_102 := Lib.hid (show (w11.alloc (.cells #[.slice At 0 cat, .slice Bt 0 cbt] 34)).heap[w11.heap.size]? = some (.cells #[.slice At 0 cat, .slice Bt 0 cbt] 34 (0, 0)) from heap_alloc_new w11 (.cells #[.slice At 0 cat, .slice Bt 0 cbt] 34))
 have HRp0_103 := Lib.hid (Kd.R_alloc HRp0_84.out (.cells #[.slice At 0 cat, .slice Bt 0 cbt] 34))
 have HRp1_104 := Lib.hid (Kd.R_alloc HRp1_85.out (.cells #[.slice At 0 cat, .slice Bt 0 cbt] 34))
 have HRq0_105 := Lib.hid (Kd.R_alloc HRq0_86.out (.cells #[.slice At 0 cat, .slice Bt 0 cbt] 34))
 have HRq1_106 := Lib.hid (Kd.R_alloc HRq1_87.out (.cells #[.slice At 0 cat, .slice Bt 0 cbt] 34))
 have HRs0_107 := Lib.hid (Kd.R_alloc HRs0_88.out (.cells #[.slice At 0 cat, .slice Bt 0 cbt] 34))
 have HRs1_108 := Lib.hid (Kd.R_alloc HRs1_89.out (.cells #[.slice At 0 cat, .slice Bt 0 cbt] 34))
 generalize (w11.alloc (.cells #[.slice At 0 cat, .slice Bt 0 cbt] 34)) = w12 at *
 obtain ⟨g, rfl, gv0, gv1⟩ := row2_val HRs1_108.out
 have hSB := Lib.hid (show ∀ W, Below w12.heap.size w12 W → (fun W => W.cell? ⟨w3.heap.size, 0, none⟩ = some (.slice Ap 2 cap) ∧ W.cell? ⟨w3.heap.size, 1, none⟩ = some (.slice Bp 2 cbp) ∧ W.cell? ⟨w5.heap.size, 0, none⟩ = some (.slice Aq 1 caq) ∧ W.cell? ⟨w5.heap.size, 1, none⟩ = some (.slice Bq 1 cbq) ∧ W.cell? ⟨w9.heap.size, 1, none⟩ = some (.slice (some ⟨g, 0, none⟩) 2 cbs) ∧ W.cell? ⟨g, 2, none⟩ = some (.string (rv ⟨#[114]⟩ 1 9 true)) ∧ W.cell? ⟨g, 5, none⟩ = some (.string (tv 0 1))) W from fun W hW => ⟨(hW.cell (p := ⟨w3.heap.size, 0, none⟩) (blk_lt HTp_98.out)).trans ((blk_cell HTp_98.out 0).trans rfl), (hW.cell (p := ⟨w3.heap.size, 1, none⟩) (blk_lt HTp_98.out)).trans ((blk_cell HTp_98.out 1).trans rfl), (hW.cell (p := ⟨w5.heap.size, 0, none⟩) (blk_lt HTq_99.out)).trans ((blk_cell HTq_99.out 0).trans rfl), (hW.cell (p := ⟨w5.heap.size, 1, none⟩) (blk_lt HTq_99.out)).trans ((blk_cell HTq_99.out 1).trans rfl), (hW.cell (p := ⟨w9.heap.size, 1, none⟩) (blk_lt HTs_101.out)).trans ((blk_cell HTs_101.out 1).trans rfl), (hW.cell (p := ⟨g, 2, none⟩) (World.block_lt_of_cell? _ _ gv0)).trans gv0, (hW.cell (p := ⟨g, 5, none⟩) (World.block_lt_of_cell? _ _ gv1)).trans gv1⟩)
 clear gv0 gv1
 refine wp_region_noPanic ?_
 refine wp_region_held_drew (S := fun W => W.cell? ⟨w3.heap.size, 0, none⟩ = some (.slice Ap 2 cap) ∧ W.cell? ⟨w3.heap.size, 1, none⟩ = some (.slice Bp 2 cbp) ∧ W.cell? ⟨w5.heap.size, 0, none⟩ = some (.slice Aq 1 caq) ∧ W.cell? ⟨w5.heap.size, 1, none⟩ = some (.slice Bq 1 cbq) ∧ W.cell? ⟨w9.heap.size, 1, none⟩ = some (.slice (some ⟨g, 0, none⟩) 2 cbs) ∧ W.cell? ⟨g, 2, none⟩ = some (.string (rv ⟨#[114]⟩ 1 9 true)) ∧ W.cell? ⟨g, 5, none⟩ = some (.string (tv 0 1))) (by kernel_rfl) (hSB.out _ (Below.refl _ _).drew) (fun hHeld => ?_)
 have hB0 := Lib.hid (show Below w12.heap.size w12 w12.drew from (Below.refl _ _).drew)
 apply cutAB (fun A B W => Below w12.heap.size w12 W)
 ·
  intro REST'
  have REST := Lib.hid REST'
  clear REST'
  refine wTake 0 ?_
  refine wTake 1 ?_
  refine wTake 2 ?_
  try simp only [Act.put, List.setIfInBounds_toArray, List.set_cons_zero, List.set_cons_succ]
  refine wTake 3 ?_
  try simp only [Act.put, List.setIfInBounds_toArray, List.set_cons_zero, List.set_cons_succ]
  refine wTake 4 ?_
  refine wTake 5 ?_
  refine wTake 6 ?_
  try simp only [Act.put, List.setIfInBounds_toArray, List.set_cons_zero, List.set_cons_succ]
  refine wTake 7 ?_
  try simp only [Act.put, List.setIfInBounds_toArray, List.set_cons_zero, List.set_cons_succ]
  refine wTake 8 ?_
  refine wTake 9 ?_
  refine wTake 10 ?_
  try simp only [Act.put, List.setIfInBounds_toArray, List.set_cons_zero, List.set_cons_succ]
  refine wTake 11 ?_
  try simp only [Act.put, List.setIfInBounds_toArray, List.set_cons_zero, List.set_cons_succ]
  refine wTake 12 ?_
  refine wTake 13 ?_
  refine wTake 14 ?_
  try simp only [Act.put, List.setIfInBounds_toArray, List.set_cons_zero, List.set_cons_succ]
  refine wTake 15 ?_
  try simp only [Act.put, List.setIfInBounds_toArray, List.set_cons_zero, List.set_cons_succ]
  refine wTake 16 ?_
  refine wTake 17 ?_
  refine wTake 18 ?_
  try simp only [Act.put, List.setIfInBounds_toArray, List.set_cons_zero, List.set_cons_succ]
  refine wTake 19 ?_
  try simp only [Act.put, List.setIfInBounds_toArray, List.set_cons_zero, List.set_cons_succ]
  refine wTake 20 ?_
  try simp only [Act.put, List.setIfInBounds_toArray, List.set_cons_zero, List.set_cons_succ]
  refine wTake 21 ?_
  try simp only [Act.put, List.setIfInBounds_toArray, List.set_cons_zero, List.set_cons_succ]
  refine wpAnyH_ready (rs := [22, 23]) (by kernel_rfl) (by simp) (AllReadyH.cons rfl (fun K hK => ?_) (AllReadyH.cons rfl (fun K hK => ?_) AllReadyH.nil))
  ·
   go_simp
   obtain ⟨A, hA⟩ : ∃ X, X = w12.drew.heap.size := ⟨_, rfl⟩
   go_wp2_with fail
   have eA : w12.heap.size = A := hA.symm
   rw [eA]
   have lA : w12.heap.size ≤ A := by rw [hA]; exact hB0.out.size
   have hB1 := Lib.hid (show Below w12.heap.size w12 (w12.alloc (.cells #[.string ⟨#[99, 47, 116, 47, 120]⟩, .int .i64 0, .string ⟨#[116, 47, 116]⟩, .int .i64 0] 73)).drew from below_alloc hB0.out (.cells #[.string ⟨#[99, 47, 116, 47, 120]⟩, .int .i64 0, .string ⟨#[116, 47, 116]⟩, .int .i64 0] 73))
   have HA_1 := Lib.hid (show (w12.alloc (.cells #[.string ⟨#[99, 47, 116, 47, 120]⟩, .int .i64 0, .string ⟨#[116, 47, 116]⟩, .int .i64 0] 73)).drew.heap[A]? = some (.cells #[.string ⟨#[99, 47, 116, 47, 120]⟩, .int .i64 0, .string ⟨#[116, 47, 116]⟩, .int .i64 0] 73 (0, 0)) from hA ▸ heap_alloc_new w12.drew (.cells #[.string ⟨#[99, 47, 116, 47, 120]⟩, .int .i64 0, .string ⟨#[116, 47, 116]⟩, .int .i64 0] 73))
   clear eA hA
   generalize (w12.alloc (.cells #[.string ⟨#[99, 47, 116, 47, 120]⟩, .int .i64 0, .string ⟨#[116, 47, 116]⟩, .int .i64 0] 73)).drew = x1 at *
   refine hK.out _ _ (hSB.out _ hB1.out) (fun hHeld => ?_)
   clear hK K
   try simp only [Act.put, List.setIfInBounds_toArray, List.set_cons_zero, List.set_cons_succ]
   refine wpAnyH_ready (rs := [23]) (by kernel_rfl) (by simp) (AllReadyH.cons rfl (fun K hK => ?_) AllReadyH.nil)
   go_simp
   with_reducible refine (val_any ⟨#[114]⟩ (by decide) 1 5 false _).mono ?_
   rintro e x2 ⟨rfl, hb⟩
   have hB2 := Lib.hid (below_next0 hB1.out hb)
   have HA_2 := Lib.hid ((hb.block _ (blk_lt HA_1.out)).trans HA_1.out)
   clear hb
   go_wp2_with fail
   refine hK.out _ _ (hSB.out _ hB2.out) (fun hHeld => ?_)
   clear hK K
   try simp only [Act.put, List.setIfInBounds_toArray, List.set_cons_zero, List.set_cons_succ]
   refine wTake 24 ?_
   try simp only [Act.put, List.setIfInBounds_toArray, List.set_cons_zero, List.set_cons_succ]
   refine wpAnyH_ready (rs := [25]) (by kernel_rfl) (by simp) (AllReadyH.cons rfl (fun K hK => ?_) AllReadyH.nil)
   go_simp
   with_reducible refine (tval_any 1 1 _).mono ?_
   rintro e x3 ⟨rfl, hb⟩
   have hB3 := Lib.hid (below_next0 hB2.out hb)
   have HA_3 := Lib.hid ((hb.block _ (blk_lt HA_2.out)).trans HA_2.out)
   clear hb
   go_wp2_with fail
   refine hK.out _ _ (hSB.out _ hB3.out) (fun hHeld => ?_)
   clear hK K
   try simp only [Act.put, List.setIfInBounds_toArray, List.set_cons_zero, List.set_cons_succ]
   refine wTake 26 ?_
   try simp only [Act.put, List.setIfInBounds_toArray, List.set_cons_zero, List.set_cons_succ]
   refine wpAnyH_ready (rs := [27]) (by kernel_rfl) (by simp) (AllReadyH.cons rfl (fun K hK => ?_) AllReadyH.nil)
   go_simp
   obtain ⟨B, hB⟩ : ∃ X, X = x3.heap.size := ⟨_, rfl⟩
   go_wp2_with fail
   have eB : x3.heap.size = B := hB.symm
   rw [eB]
   have lB : w12.heap.size ≤ B := by rw [hB]; exact hB3.out.size
   have hB4 := Lib.hid (show Below w12.heap.size w12 (x3.alloc (.cells #[.bool false, .string ⟨#[99, 47, 116, 47, 120]⟩, .string (rv ⟨#[114]⟩ 1 5 false), .bool false, .string ⟨#[116, 47, 116]⟩, .string (tv 1 1)] 85)) from below_alloc hB3.out (.cells #[.bool false, .string ⟨#[99, 47, 116, 47, 120]⟩, .string (rv ⟨#[114]⟩ 1 5 false), .bool false, .string ⟨#[116, 47, 116]⟩, .string (tv 1 1)] 85))
   have HB_4 := Lib.hid (show (x3.alloc (.cells #[.bool false, .string ⟨#[99, 47, 116, 47, 120]⟩, .string (rv ⟨#[114]⟩ 1 5 false), .bool false, .string ⟨#[116, 47, 116]⟩, .string (tv 1 1)] 85)).heap[B]? = some (.cells #[.bool false, .string ⟨#[99, 47, 116, 47, 120]⟩, .string (rv ⟨#[114]⟩ 1 5 false), .bool false, .string ⟨#[116, 47, 116]⟩, .string (tv 1 1)] 85 (0, 0)) from hB ▸ heap_alloc_new x3 (.cells #[.bool false, .string ⟨#[99, 47, 116, 47, 120]⟩, .string (rv ⟨#[114]⟩ 1 5 false), .bool false, .string ⟨#[116, 47, 116]⟩, .string (tv 1 1)] 85))
   have HA_4 := Lib.hid (show (x3.alloc (.cells #[.bool false, .string ⟨#[99, 47, 116, 47, 120]⟩, .string (rv ⟨#[114]⟩ 1 5 false), .bool false, .string ⟨#[116, 47, 116]⟩, .string (tv 1 1)] 85)).heap[A]? = _ from blk_alloc HA_3.out (.cells #[.bool false, .string ⟨#[99, 47, 116, 47, 120]⟩, .string (rv ⟨#[114]⟩ 1 5 false), .bool false, .string ⟨#[116, 47, 116]⟩, .string (tv 1 1)] 85))
   clear eB hB
   generalize (x3.alloc (.cells #[.bool false, .string ⟨#[99, 47, 116, 47, 120]⟩, .string (rv ⟨#[114]⟩ 1 5 false), .bool false, .string ⟨#[116, 47, 116]⟩, .string (tv 1 1)] 85)) = x4 at *
   refine hK.out _ _ (hSB.out _ hB4.out) (fun hHeld => ?_)
   clear hK K
   try simp only [Act.put, List.setIfInBounds_toArray, List.set_cons_zero, List.set_cons_succ]
   refine wTake 28 ?_
   try simp only [Act.put, List.setIfInBounds_toArray, List.set_cons_zero, List.set_cons_succ]
   refine wpAnyH_ready (rs := [29]) (by kernel_rfl) (by simp) (AllReadyH.cons rfl (fun K hK => ?_) AllReadyH.nil)
   go_simp
   refine (same_any [⟨⟨#[99, 47, 116, 47, 120]⟩, 0⟩, ⟨⟨#[116, 47, 116]⟩, 0⟩] [⟨false, ⟨#[99, 47, 116, 47, 120]⟩, rv ⟨#[114]⟩ 1 5 false⟩, ⟨false, ⟨#[116, 47, 116]⟩, tv 1 1⟩] (by simp) (by simp) _ _ _ _ _ _ _ _ _ _ 0 0 _ (Kd.R_below HRp0_103.out hB4.out) (Kd.R_below HRp1_104.out hB4.out) (R_two2 HA_4.out (Nat.zero_le _) trivial) (R_two3 HB_4.out (Nat.zero_le _) trivial)).mono ?_
   rintro e x5 ⟨rfl, hb⟩
   have hB5 := Lib.hid (below_next0 hB4.out hb)
   have HA_5 := Lib.hid ((hb.block _ (blk_lt HA_4.out)).trans HA_4.out)
   have HB_5 := Lib.hid ((hb.block _ (blk_lt HB_4.out)).trans HB_4.out)
   clear hb
   go_wp2_with fail
   refine hK.out _ _ (hSB.out _ hB5.out) (fun hHeld => ?_)
   clear hK K
   try simp only [Act.put, List.setIfInBounds_toArray, List.set_cons_zero, List.set_cons_succ]
   refine wpAnyH_cast (l' := #[true, true, true, true, true, true, true, true, true, true, true, true, true, true, true, true, true, true, true, true, true, true, true, true, true, true, true, true, true, true, false, false, false, false, false, false, false, false, false, false, false, false, false, false, false, false, false, false, false, false, false, false, false, false, false, false, false, false, false, false, false, false, false, false, false, false]) (by kernel_rfl) ?_
   exact REST.out A B x5 hB5.out
  ·
   go_simp
   with_reducible refine (val_any ⟨#[114]⟩ (by decide) 1 5 false _).mono ?_
   rintro e x1 ⟨rfl, hb⟩
   have hB1 := Lib.hid (below_next0 hB0.out hb)
   clear hb
   go_wp2_with fail
   refine hK.out _ _ (hSB.out _ hB1.out) (fun hHeld => ?_)
   clear hK K
   try simp only [Act.put, List.setIfInBounds_toArray, List.set_cons_zero, List.set_cons_succ]
   refine wTake 24 ?_
   try simp only [Act.put, List.setIfInBounds_toArray, List.set_cons_zero, List.set_cons_succ]
   refine wpAnyH_ready (rs := [22, 25]) (by kernel_rfl) (by simp) (AllReadyH.cons rfl (fun K hK => ?_) (AllReadyH.cons rfl (fun K hK => ?_) AllReadyH.nil))
   ·
    go_simp
    obtain ⟨A, hA⟩ : ∃ X, X = x1.heap.size := ⟨_, rfl⟩
    go_wp2_with fail
    have eA : x1.heap.size = A := hA.symm
    rw [eA]
    have lA : w12.heap.size ≤ A := by rw [hA]; exact hB1.out.size
    have hB2 := Lib.hid (show Below w12.heap.size w12 (x1.alloc (.cells #[.string ⟨#[99, 47, 116, 47, 120]⟩, .int .i64 0, .string ⟨#[116, 47, 116]⟩, .int .i64 0] 73)) from below_alloc hB1.out (.cells #[.string ⟨#[99, 47, 116, 47, 120]⟩, .int .i64 0, .string ⟨#[116, 47, 116]⟩, .int .i64 0] 73))
    have HA_2 := Lib.hid (show (x1.alloc (.cells #[.string ⟨#[99, 47, 116, 47, 120]⟩, .int .i64 0, .string ⟨#[116, 47, 116]⟩, .int .i64 0] 73)).heap[A]? = some (.cells #[.string ⟨#[99, 47, 116, 47, 120]⟩, .int .i64 0, .string ⟨#[116, 47, 116]⟩, .int .i64 0] 73 (0, 0)) from hA ▸ heap_alloc_new x1 (.cells #[.string ⟨#[99, 47, 116, 47, 120]⟩, .int .i64 0, .string ⟨#[116, 47, 116]⟩, .int .i64 0] 73))
    clear eA hA
    generalize (x1.alloc (.cells #[.string ⟨#[99, 47, 116, 47, 120]⟩, .int .i64 0, .string ⟨#[116, 47, 116]⟩, .int .i64 0] 73)) = x2 at *
    refine hK.out _ _ (hSB.out _ hB2.out) (fun hHeld => ?_)
    clear hK K
    try simp only [Act.put, List.setIfInBounds_toArray, List.set_cons_zero, List.set_cons_succ]
    refine wpAnyH_ready (rs := [25]) (by kernel_rfl) (by simp) (AllReadyH.cons rfl (fun K hK => ?_) AllReadyH.nil)
    go_simp
    with_reducible refine (tval_any 1 1 _).mono ?_
    rintro e x3 ⟨rfl, hb⟩
    have hB3 := Lib.hid (below_next0 hB2.out hb)
    have HA_3 := Lib.hid ((hb.block _ (blk_lt HA_2.out)).trans HA_2.out)
    clear hb
    go_wp2_with fail
    refine hK.out _ _ (hSB.out _ hB3.out) (fun hHeld => ?_)
    clear hK K
    try simp only [Act.put, List.setIfInBounds_toArray, List.set_cons_zero, List.set_cons_succ]
    refine wTake 26 ?_
    try simp only [Act.put, List.setIfInBounds_toArray, List.set_cons_zero, List.set_cons_succ]
    refine wpAnyH_ready (rs := [27]) (by kernel_rfl) (by simp) (AllReadyH.cons rfl (fun K hK => ?_) AllReadyH.nil)
    go_simp
    obtain ⟨B, hB⟩ : ∃ X, X = x3.heap.size := ⟨_, rfl⟩
    go_wp2_with fail
    have eB : x3.heap.size = B := hB.symm
    rw [eB]
    have lB : w12.heap.size ≤ B := by rw [hB]; exact hB3.out.size
    have hB4 := Lib.hid (show Below w12.heap.size w12 (x3.alloc (.cells #[.bool false, .string ⟨#[99, 47, 116, 47, 120]⟩, .string (rv ⟨#[114]⟩ 1 5 false), .bool false, .string ⟨#[116, 47, 116]⟩, .string (tv 1 1)] 85)) from below_alloc hB3.out (.cells #[.bool false, .string ⟨#[99, 47, 116, 47, 120]⟩, .string (rv ⟨#[114]⟩ 1 5 false), .bool false, .string ⟨#[116, 47, 116]⟩, .string (tv 1 1)] 85))
    have HB_4 := Lib.hid (show (x3.alloc (.cells #[.bool false, .string ⟨#[99, 47, 116, 47, 120]⟩, .string (rv ⟨#[114]⟩ 1 5 false), .bool false, .string ⟨#[116, 47, 116]⟩, .string (tv 1 1)] 85)).heap[B]? = some (.cells #[.bool false, .string ⟨#[99, 47, 116, 47, 120]⟩, .string (rv ⟨#[114]⟩ 1 5 false), .bool false, .string ⟨#[116, 47, 116]⟩, .string (tv 1 1)] 85 (0, 0)) from hB ▸ heap_alloc_new x3 (.cells #[.bool false, .string ⟨#[99, 47, 116, 47, 120]⟩, .string (rv ⟨#[114]⟩ 1 5 false), .bool false, .string ⟨#[116, 47, 116]⟩, .string (tv 1 1)] 85))
    have HA_4 := Lib.hid (show (x3.alloc (.cells #[.bool false, .string ⟨#[99, 47, 116, 47, 120]⟩, .string (rv ⟨#[114]⟩ 1 5 false), .bool false, .string ⟨#[116, 47, 116]⟩, .string (tv 1 1)] 85)).heap[A]? = _ from blk_alloc HA_3.out (.cells #[.bool false, .string ⟨#[99, 47, 116, 47, 120]⟩, .string (rv ⟨#[114]⟩ 1 5 false), .bool false, .string ⟨#[116, 47, 116]⟩, .string (tv 1 1)] 85))
    clear eB hB
    generalize (x3.alloc (.cells #[.bool false, .string ⟨#[99, 47, 116, 47, 120]⟩, .string (rv ⟨#[114]⟩ 1 5 false), .bool false, .string ⟨#[116, 47, 116]⟩, .string (tv 1 1)] 85)) = x4 at *
    refine hK.out _ _ (hSB.out _ hB4.out) (fun hHeld => ?_)
    clear hK K
    try simp only [Act.put, List.setIfInBounds_toArray, List.set_cons_zero, List.set_cons_succ]
    refine wTake 28 ?_
    try simp only [Act.put, List.setIfInBounds_toArray, List.set_cons_zero, List.set_cons_succ]
    refine wpAnyH_ready (rs := [29]) (by kernel_rfl) (by simp) (AllReadyH.cons rfl (fun K hK => ?_) AllReadyH.nil)
    go_simp
    refine (same_any [⟨⟨#[99, 47, 116, 47, 120]⟩, 0⟩, ⟨⟨#[116, 47, 116]⟩, 0⟩] [⟨false, ⟨#[99, 47, 116, 47, 120]⟩, rv ⟨#[114]⟩ 1 5 false⟩, ⟨false, ⟨#[116, 47, 116]⟩, tv 1 1⟩] (by simp) (by simp) _ _ _ _ _ _ _ _ _ _ 0 0 _ (Kd.R_below HRp0_103.out hB4.out) (Kd.R_below HRp1_104.out hB4.out) (R_two2 HA_4.out (Nat.zero_le _) trivial) (R_two3 HB_4.out (Nat.zero_le _) trivial)).mono ?_
    rintro e x5 ⟨rfl, hb⟩
    have hB5 := Lib.hid (below_next0 hB4.out hb)
    have HA_5 := Lib.hid ((hb.block _ (blk_lt HA_4.out)).trans HA_4.out)
    have HB_5 := Lib.hid ((hb.block _ (blk_lt HB_4.out)).trans HB_4.out)
    clear hb
    go_wp2_with fail
    refine hK.out _ _ (hSB.out _ hB5.out) (fun hHeld => ?_)
    clear hK K
    try simp only [Act.put, List.setIfInBounds_toArray, List.set_cons_zero, List.set_cons_succ]
    refine wpAnyH_cast (l' := #[true, true, true, true, true, true, true, true, true, true, true, true, true, true, true, true, true, true, true, true, true, true, true, true, true, true, true, true, true, true, false, false, false, false, false, false, false, false, false, false, false, false, false, false, false, false, false, false, false, false, false, false, false, false, false, false, false, false, false, false, false, false, false, false, false, false]) (by kernel_rfl) ?_
    exact REST.out A B x5 hB5.out
   ·
    go_simp
    with_reducible refine (tval_any 1 1 _).mono ?_
    rintro e x2 ⟨rfl, hb⟩
    have hB2 := Lib.hid (below_next0 hB1.out hb)
    clear hb
    go_wp2_with fail
    refine hK.out _ _ (hSB.out _ hB2.out) (fun hHeld => ?_)
    clear hK K
    try simp only [Act.put, List.setIfInBounds_toArray, List.set_cons_zero, List.set_cons_succ]
    refine wTake 26 ?_
    try simp only [Act.put, List.setIfInBounds_toArray, List.set_cons_zero, List.set_cons_succ]
    refine wpAnyH_ready (rs := [22, 27]) (by kernel_rfl) (by simp) (AllReadyH.cons rfl (fun K hK => ?_) (AllReadyH.cons rfl (fun K hK => ?_) AllReadyH.nil))
    ·
     go_simp
     obtain ⟨A, hA⟩ : ∃ X, X = x2.heap.size := ⟨_, rfl⟩
     go_wp2_with fail
     have eA : x2.heap.size = A := hA.symm
     rw [eA]
     have lA : w12.heap.size ≤ A := by rw [hA]; exact hB2.out.size
     have hB3 := Lib.hid (show Below w12.heap.size w12 (x2.alloc (.cells #[.string ⟨#[99, 47, 116, 47, 120]⟩, .int .i64 0, .string ⟨#[116, 47, 116]⟩, .int .i64 0] 73)) from below_alloc hB2.out (.cells #[.string ⟨#[99, 47, 116, 47, 120]⟩, .int .i64 0, .string ⟨#[116, 47, 116]⟩, .int .i64 0] 73))
     have HA_3 := Lib.hid (show (x2.alloc (.cells #[.string ⟨#[99, 47, 116, 47, 120]⟩, .int .i64 0, .string ⟨#[116, 47, 116]⟩, .int .i64 0] 73)).heap[A]? = some (.cells #[.string ⟨#[99, 47, 116, 47, 120]⟩, .int .i64 0, .string ⟨#[116, 47, 116]⟩, .int .i64 0] 73 (0, 0)) from hA ▸ heap_alloc_new x2 (.cells #[.string ⟨#[99, 47, 116, 47, 120]⟩, .int .i64 0, .string ⟨#[116, 47, 116]⟩, .int .i64 0] 73))
     clear eA hA
     generalize (x2.alloc (.cells #[.string ⟨#[99, 47, 116, 47, 120]⟩, .int .i64 0, .string ⟨#[116, 47, 116]⟩, .int .i64 0] 73)) = x3 at *
     refine hK.out _ _ (hSB.out _ hB3.out) (fun hHeld => ?_)
     clear hK K
     try simp only [Act.put, List.setIfInBounds_toArray, List.set_cons_zero, List.set_cons_succ]
     refine wpAnyH_ready (rs := [27]) (by kernel_rfl) (by simp) (AllReadyH.cons rfl (fun K hK => ?_) AllReadyH.nil)
     go_simp
     obtain ⟨B, hB⟩ : ∃ X, X = x3.heap.size := ⟨_, rfl⟩
     go_wp2_with fail
     have eB : x3.heap.size = B := hB.symm
     rw [eB]
     have lB : w12.heap.size ≤ B := by rw [hB]; exact hB3.out.size
     have hB4 := Lib.hid (show Below w12.heap.size w12 (x3.alloc (.cells #[.bool false, .string ⟨#[99, 47, 116, 47, 120]⟩, .string (rv ⟨#[114]⟩ 1 5 false), .bool false, .string ⟨#[116, 47, 116]⟩, .string (tv 1 1)] 85)) from below_alloc hB3.out (.cells #[.bool false, .string ⟨#[99, 47, 116, 47, 120]⟩, .string (rv ⟨#[114]⟩ 1 5 false), .bool false, .string ⟨#[116, 47, 116]⟩, .string (tv 1 1)] 85))
     have HB_4 := Lib.hid (show (x3.alloc (.cells #[.bool false, .string ⟨#[99, 47, 116, 47, 120]⟩, .string (rv ⟨#[114]⟩ 1 5 false), .bool false, .string ⟨#[116, 47, 116]⟩, .string (tv 1 1)] 85)).heap[B]? = some (.cells #[.bool false, .string ⟨#[99, 47, 116, 47, 120]⟩, .string (rv ⟨#[114]⟩ 1 5 false), .bool false, .string ⟨#[116, 47, 116]⟩, .string (tv 1 1)] 85 (0, 0)) from hB ▸ heap_alloc_new x3 (.cells #[.bool false, .string ⟨#[99, 47, 116, 47, 120]⟩, .string (rv ⟨#[114]⟩ 1 5 false), .bool false, .string ⟨#[116, 47, 116]⟩, .string (tv 1 1)] 85))
     have HA_4 := Lib.hid (show (x3.alloc (.cells #[.bool false, .string ⟨#[99, 47, 116, 47, 120]⟩, .string (rv ⟨#[114]⟩ 1 5 false), .bool false, .string ⟨#[116, 47, 116]⟩, .string (tv 1 1)] 85)).heap[A]? = _ from blk_alloc HA_3.out (.cells #[.bool false, .string ⟨#[99, 47, 116, 47, 120]⟩, .string (rv ⟨#[114]⟩ 1 5 false), .bool false, .string ⟨#[116, 47, 116]⟩, .string (tv 1 1)] 85))
     clear eB hB
     generalize (x3.alloc (.cells #[.bool false, .string ⟨#[99, 47, 116, 47, 120]⟩, .string (rv ⟨#[114]⟩ 1 5 false), .bool false, .string ⟨#[116, 47, 116]⟩, .string (tv 1 1)] 85)) = x4 at *
     refine hK.out _ _ (hSB.out _ hB4.out) (fun hHeld => ?_)
     clear hK K
     try simp only [Act.put, List.setIfInBounds_toArray, List.set_cons_zero, List.set_cons_succ]
     refine wTake 28 ?_
     try simp only [Act.put, List.setIfInBounds_toArray, List.set_cons_zero, List.set_cons_succ]
     refine wpAnyH_ready (rs := [29]) (by kernel_rfl) (by simp) (AllReadyH.cons rfl (fun K hK => ?_) AllReadyH.nil)
     go_simp
     refine (same_any [⟨⟨#[99, 47, 116, 47, 120]⟩, 0⟩, ⟨⟨#[116, 47, 116]⟩, 0⟩] [⟨false, ⟨#[99, 47, 116, 47, 120]⟩, rv ⟨#[114]⟩ 1 5 false⟩, ⟨false, ⟨#[116, 47, 116]⟩, tv 1 1⟩] (by simp) (by simp) _ _ _ _ _ _ _ _ _ _ 0 0 _ (Kd.R_below HRp0_103.out hB4.out) (Kd.R_below HRp1_104.out hB4.out) (R_two2 HA_4.out (Nat.zero_le _) trivial) (R_two3 HB_4.out (Nat.zero_le _) trivial)).mono ?_
     rintro e x5 ⟨rfl, hb⟩
     have hB5 := Lib.hid (below_next0 hB4.out hb)
     have HA_5 := Lib.hid ((hb.block _ (blk_lt HA_4.out)).trans HA_4.out)
     have HB_5 := Lib.hid ((hb.block _ (blk_lt HB_4.out)).trans HB_4.out)
     clear hb
     go_wp2_with fail
     refine hK.out _ _ (hSB.out _ hB5.out) (fun hHeld => ?_)
     clear hK K
     try simp only [Act.put, List.setIfInBounds_toArray, List.set_cons_zero, List.set_cons_succ]
     refine wpAnyH_cast (l' := #[true, true, true, true, true, true, true, true, true, true, true, true, true, true, true, true, true, true, true, true, true, true, true, true, true, true, true, true, true, true, false, false, false, false, false, false, false, false, false, false, false, false, false, false, false, false, false, false, false, false, false, false, false, false, false, false, false, false, false, false, false, false, false, false, false, false]) (by kernel_rfl) ?_
     exact REST.out A B x5 hB5.out
    ·
     go_simp
     obtain ⟨B, hB⟩ : ∃ X, X = x2.heap.size := ⟨_, rfl⟩
     go_wp2_with fail
     have eB : x2.heap.size = B := hB.symm
     rw [eB]
     have lB : w12.heap.size ≤ B := by rw [hB]; exact hB2.out.size
     have hB3 := Lib.hid (show Below w12.heap.size w12 (x2.alloc (.cells #[.bool false, .string ⟨#[99, 47, 116, 47, 120]⟩, .string (rv ⟨#[114]⟩ 1 5 false), .bool false, .string ⟨#[116, 47, 116]⟩, .string (tv 1 1)] 85)) from below_alloc hB2.out (.cells #[.bool false, .string ⟨#[99, 47, 116, 47, 120]⟩, .string (rv ⟨#[114]⟩ 1 5 false), .bool false, .string ⟨#[116, 47, 116]⟩, .string (tv 1 1)] 85))
     have HB_3 := Lib.hid (show (x2.alloc (.cells #[.bool false, .string ⟨#[99, 47, 116, 47, 120]⟩, .string (rv ⟨#[114]⟩ 1 5 false), .bool false, .string ⟨#[116, 47, 116]⟩, .string (tv 1 1)] 85)).heap[B]? = some (.cells #[.bool false, .string ⟨#[99, 47, 116, 47, 120]⟩, .string (rv ⟨#[114]⟩ 1 5 false), .bool false, .string ⟨#[116, 47, 116]⟩, .string (tv 1 1)] 85 (0, 0)) from hB ▸ heap_alloc_new x2 (.cells #[.bool false, .string ⟨#[99, 47, 116, 47, 120]⟩, .string (rv ⟨#[114]⟩ 1 5 false), .bool false, .string ⟨#[116, 47, 116]⟩, .string (tv 1 1)] 85))
     clear eB hB
     generalize (x2.alloc (.cells #[.bool false, .string ⟨#[99, 47, 116, 47, 120]⟩, .string (rv ⟨#[114]⟩ 1 5 false), .bool false, .string ⟨#[116, 47, 116]⟩, .string (tv 1 1)] 85)) = x3 at *
     refine hK.out _ _ (hSB.out _ hB3.out) (fun hHeld => ?_)
     clear hK K
     try simp only [Act.put, List.setIfInBounds_toArray, List.set_cons_zero, List.set_cons_succ]
     refine wpAnyH_ready (rs := [22]) (by kernel_rfl) (by simp) (AllReadyH.cons rfl (fun K hK => ?_) AllReadyH.nil)
     go_simp
     obtain ⟨A, hA⟩ : ∃ X, X = x3.heap.size := ⟨_, rfl⟩
     go_wp2_with fail
     have eA : x3.heap.size = A := hA.symm
     rw [eA]
     have lA : w12.heap.size ≤ A := by rw [hA]; exact hB3.out.size
     have hB4 := Lib.hid (show Below w12.heap.size w12 (x3.alloc (.cells #[.string ⟨#[99, 47, 116, 47, 120]⟩, .int .i64 0, .string ⟨#[116, 47, 116]⟩, .int .i64 0] 73)) from below_alloc hB3.out (.cells #[.string ⟨#[99, 47, 116, 47, 120]⟩, .int .i64 0, .string ⟨#[116, 47, 116]⟩, .int .i64 0] 73))
     have HA_4 := Lib.hid (show (x3.alloc (.cells #[.string ⟨#[99, 47, 116, 47, 120]⟩, .int .i64 0, .string ⟨#[116, 47, 116]⟩, .int .i64 0] 73)).heap[A]? = some (.cells #[.string ⟨#[99, 47, 116, 47, 120]⟩, .int .i64 0, .string ⟨#[116, 47, 116]⟩, .int .i64 0] 73 (0, 0)) from hA ▸ heap_alloc_new x3 (.cells #[.string ⟨#[99, 47, 116, 47, 120]⟩, .int .i64 0, .string ⟨#[116, 47, 116]⟩, .int .i64 0] 73))
     have HB_4 := Lib.hid (show (x3.alloc (.cells #[.string ⟨#[99, 47, 116, 47, 120]⟩, .int .i64 0, .string ⟨#[116, 47, 116]⟩, .int .i64 0] 73)).heap[B]? = _ from blk_alloc HB_3.out (.cells #[.string ⟨#[99, 47, 116, 47, 120]⟩, .int .i64 0, .string ⟨#[116, 47, 116]⟩, .int .i64 0] 73))
     clear eA hA
     generalize (x3.alloc (.cells #[.string ⟨#[99, 47, 116, 47, 120]⟩, .int .i64 0, .string ⟨#[116, 47, 116]⟩, .int .i64 0] 73)) = x4 at *
     refine hK.out _ _ (hSB.out _ hB4.out) (fun hHeld => ?_)
     clear hK K
     try simp only [Act.put, List.setIfInBounds_toArray, List.set_cons_zero, List.set_cons_succ]
     refine wTake 28 ?_
     try simp only [Act.put, List.setIfInBounds_toArray, List.set_cons_zero, List.set_cons_succ]
     refine wpAnyH_ready (rs := [29]) (by kernel_rfl) (by simp) (AllReadyH.cons rfl (fun K hK => ?_) AllReadyH.nil)
     go_simp
     refine (same_any [⟨⟨#[99, 47, 116, 47, 120]⟩, 0⟩, ⟨⟨#[116, 47, 116]⟩, 0⟩] [⟨false, ⟨#[99, 47, 116, 47, 120]⟩, rv ⟨#[114]⟩ 1 5 false⟩, ⟨false, ⟨#[116, 47, 116]⟩, tv 1 1⟩] (by simp) (by simp) _ _ _ _ _ _ _ _ _ _ 0 0 _ (Kd.R_below HRp0_103.out hB4.out) (Kd.R_below HRp1_104.out hB4.out) (R_two2 HA_4.out (Nat.zero_le _) trivial) (R_two3 HB_4.out (Nat.zero_le _) trivial)).mono ?_
     rintro e x5 ⟨rfl, hb⟩
     have hB5 := Lib.hid (below_next0 hB4.out hb)
     have HB_5 := Lib.hid ((hb.block _ (blk_lt HB_4.out)).trans HB_4.out)
     have HA_5 := Lib.hid ((hb.block _ (blk_lt HA_4.out)).trans HA_4.out)
     clear hb
     go_wp2_with fail
     refine hK.out _ _ (hSB.out _ hB5.out) (fun hHeld => ?_)
     clear hK K
     try simp only [Act.put, List.setIfInBounds_toArray, List.set_cons_zero, List.set_cons_succ]
     refine wpAnyH_cast (l' := #[true, true, true, true, true, true, true, true, true, true, true, true, true, true, true, true, true, true, true, true, true, true, true, true, true, true, true, true, true, true, false, false, false, false, false, false, false, false, false, false, false, false, false, false, false, false, false, false, false, false, false, false, false, false, false, false, false, false, false, false, false, false, false, false, false, false]) (by kernel_rfl) ?_
     exact REST.out A B x5 hB5.out
 intro A B W1 hb1
 have hH1 := hSB.out _ hb1
 try dsimp only
 have hB1 := Lib.hid hb1
 clear hb1
 apply cutAB (fun A B W => Below w12.heap.size w12 W)
 ·
  intro REST'
  have REST := Lib.hid REST'
  clear REST'
  refine wTake 30 ?_
  refine wTake 31 ?_
  try simp only [Act.put, List.setIfInBounds_toArray, List.set_cons_zero, List.set_cons_succ]
  refine wTake 32 ?_
  try simp only [Act.put, List.setIfInBounds_toArray, List.set_cons_zero, List.set_cons_succ]
  refine wTake 33 ?_
  try simp only [Act.put, List.setIfInBounds_toArray, List.set_cons_zero, List.set_cons_succ]
  refine wpAnyH_ready (rs := [34, 35]) (by kernel_rfl) (by simp) (AllReadyH.cons rfl (fun K hK => ?_) (AllReadyH.cons rfl (fun K hK => ?_) AllReadyH.nil))
  ·
   go_simp
   obtain ⟨A, hA⟩ : ∃ X, X = W1.heap.size := ⟨_, rfl⟩
   go_wp2_with fail
   have eA : W1.heap.size = A := hA.symm
   rw [eA]
   have lA : w12.heap.size ≤ A := by rw [hA]; exact hB1.out.size
   have hB11 := Lib.hid (show Below w12.heap.size w12 (W1.alloc (.cells #[.string ⟨#[99, 47, 116, 47, 120]⟩, .int .i64 1] 73)) from below_alloc hB1.out (.cells #[.string ⟨#[99, 47, 116, 47, 120]⟩, .int .i64 1] 73))
   have HA_11 := Lib.hid (show (W1.alloc (.cells #[.string ⟨#[99, 47, 116, 47, 120]⟩, .int .i64 1] 73)).heap[A]? = some (.cells #[.string ⟨#[99, 47, 116, 47, 120]⟩, .int .i64 1] 73 (0, 0)) from hA ▸ heap_alloc_new W1 (.cells #[.string ⟨#[99, 47, 116, 47, 120]⟩, .int .i64 1] 73))
   clear eA hA
   generalize (W1.alloc (.cells #[.string ⟨#[99, 47, 116, 47, 120]⟩, .int .i64 1] 73)) = x11 at *
   refine hK.out _ _ (hSB.out _ hB11.out) (fun hHeld => ?_)
   clear hK K
   try simp only [Act.put, List.setIfInBounds_toArray, List.set_cons_zero, List.set_cons_succ]
   refine wpAnyH_ready (rs := [35]) (by kernel_rfl) (by simp) (AllReadyH.cons rfl (fun K hK => ?_) AllReadyH.nil)
   go_simp
   with_reducible refine (val_any ⟨#[114]⟩ (by decide) 1 9 false _).mono ?_
   rintro e x12 ⟨rfl, hb⟩
   have hB12 := Lib.hid (below_next0 hB11.out hb)
   have HA_12 := Lib.hid ((hb.block _ (blk_lt HA_11.out)).trans HA_11.out)
   clear hb
   go_wp2_with fail
   refine hK.out _ _ (hSB.out _ hB12.out) (fun hHeld => ?_)
   clear hK K
   try simp only [Act.put, List.setIfInBounds_toArray, List.set_cons_zero, List.set_cons_succ]
   refine wTake 36 ?_
   try simp only [Act.put, List.setIfInBounds_toArray, List.set_cons_zero, List.set_cons_succ]
   refine wpAnyH_ready (rs := [37]) (by kernel_rfl) (by simp) (AllReadyH.cons rfl (fun K hK => ?_) AllReadyH.nil)
   go_simp
   obtain ⟨B, hB⟩ : ∃ X, X = x12.heap.size := ⟨_, rfl⟩
   go_wp2_with fail
   have eB : x12.heap.size = B := hB.symm
   rw [eB]
   have lB : w12.heap.size ≤ B := by rw [hB]; exact hB12.out.size
   have hB13 := Lib.hid (show Below w12.heap.size w12 (x12.alloc (.cells #[.bool false, .string ⟨#[99, 47, 116, 47, 120]⟩, .string (rv ⟨#[114]⟩ 1 9 false)] 85)) from below_alloc hB12.out (.cells #[.bool false, .string ⟨#[99, 47, 116, 47, 120]⟩, .string (rv ⟨#[114]⟩ 1 9 false)] 85))
   have HB_13 := Lib.hid (show (x12.alloc (.cells #[.bool false, .string ⟨#[99, 47, 116, 47, 120]⟩, .string (rv ⟨#[114]⟩ 1 9 false)] 85)).heap[B]? = some (.cells #[.bool false, .string ⟨#[99, 47, 116, 47, 120]⟩, .string (rv ⟨#[114]⟩ 1 9 false)] 85 (0, 0)) from hB ▸ heap_alloc_new x12 (.cells #[.bool false, .string ⟨#[99, 47, 116, 47, 120]⟩, .string (rv ⟨#[114]⟩ 1 9 false)] 85))
   have HA_13 := Lib.hid (show (x12.alloc (.cells #[.bool false, .string ⟨#[99, 47, 116, 47, 120]⟩, .string (rv ⟨#[114]⟩ 1 9 false)] 85)).heap[A]? = _ from blk_alloc HA_12.out (.cells #[.bool false, .string ⟨#[99, 47, 116, 47, 120]⟩, .string (rv ⟨#[114]⟩ 1 9 false)] 85))
   clear eB hB
   generalize (x12.alloc (.cells #[.bool false, .string ⟨#[99, 47, 116, 47, 120]⟩, .string (rv ⟨#[114]⟩ 1 9 false)] 85)) = x13 at *
   refine hK.out _ _ (hSB.out _ hB13.out) (fun hHeld => ?_)
   clear hK K
   try simp only [Act.put, List.setIfInBounds_toArray, List.set_cons_zero, List.set_cons_succ]
   refine wTake 38 ?_
   try simp only [Act.put, List.setIfInBounds_toArray, List.set_cons_zero, List.set_cons_succ]
   refine wpAnyH_ready (rs := [39]) (by kernel_rfl) (by simp) (AllReadyH.cons rfl (fun K hK => ?_) AllReadyH.nil)
   go_simp
   refine (same_any [⟨⟨#[99, 47, 116, 47, 120]⟩, 1⟩] [⟨false, ⟨#[99, 47, 116, 47, 120]⟩, rv ⟨#[114]⟩ 1 9 false⟩] (by simp) (by simp) _ _ _ _ _ _ _ _ _ _ 0 0 _ (Kd.R_below HRq0_105.out hB13.out) (Kd.R_below HRq1_106.out hB13.out) (R_one HA_13.out (Nat.zero_le _) trivial (PEl.k73_mkM _ 0 _ ⟨_, _⟩) rfl) (R_one HB_13.out (Nat.zero_le _) trivial (PEl.k85_mkM _ 0 _ ⟨_, _, _⟩) rfl)).mono ?_
   rintro e x14 ⟨rfl, hb⟩
   have hB14 := Lib.hid (below_next0 hB13.out hb)
   have HA_14 := Lib.hid ((hb.block _ (blk_lt HA_13.out)).trans HA_13.out)
   have HB_14 := Lib.hid ((hb.block _ (blk_lt HB_13.out)).trans HB_13.out)
   clear hb
   go_wp2_with fail
   refine hK.out _ _ (hSB.out _ hB14.out) (fun hHeld => ?_)
   clear hK K
   try simp only [Act.put, List.setIfInBounds_toArray, List.set_cons_zero, List.set_cons_succ]
   refine wpAnyH_cast (l' := #[true, true, true, true, true, true, true, true, true, true, true, true, true, true, true, true, true, true, true, true, true, true, true, true, true, true, true, true, true, true, true, true, true, true, true, true, true, true, true, true, false, false, false, false, false, false, false, false, false, false, false, false, false, false, false, false, false, false, false, false, false, false, false, false, false, false]) (by kernel_rfl) ?_
   exact REST.out A B x14 hB14.out
  ·
   go_simp
   with_reducible refine (val_any ⟨#[114]⟩ (by decide) 1 9 false _).mono ?_
   rintro e x11 ⟨rfl, hb⟩
   have hB11 := Lib.hid (below_next0 hB1.out hb)
   clear hb
   go_wp2_with fail
   refine hK.out _ _ (hSB.out _ hB11.out) (fun hHeld => ?_)
   clear hK K
   try simp only [Act.put, List.setIfInBounds_toArray, List.set_cons_zero, List.set_cons_succ]
   refine wTake 36 ?_
   try simp only [Act.put, List.setIfInBounds_toArray, List.set_cons_zero, List.set_cons_succ]
   refine wpAnyH_ready (rs := [34, 37]) (by kernel_rfl) (by simp) (AllReadyH.cons rfl (fun K hK => ?_) (AllReadyH.cons rfl (fun K hK => ?_) AllReadyH.nil))
   ·
    go_simp
    obtain ⟨A, hA⟩ : ∃ X, X = x11.heap.size := ⟨_, rfl⟩
    go_wp2_with fail
    have eA : x11.heap.size = A := hA.symm
    rw [eA]
    have lA : w12.heap.size ≤ A := by rw [hA]; exact hB11.out.size
    have hB12 := Lib.hid (show Below w12.heap.size w12 (x11.alloc (.cells #[.string ⟨#[99, 47, 116, 47, 120]⟩, .int .i64 1] 73)) from below_alloc hB11.out (.cells #[.string ⟨#[99, 47, 116, 47, 120]⟩, .int .i64 1] 73))
    have HA_12 := Lib.hid (show (x11.alloc (.cells #[.string ⟨#[99, 47, 116, 47, 120]⟩, .int .i64 1] 73)).heap[A]? = some (.cells #[.string ⟨#[99, 47, 116, 47, 120]⟩, .int .i64 1] 73 (0, 0)) from hA ▸ heap_alloc_new x11 (.cells #[.string ⟨#[99, 47, 116, 47, 120]⟩, .int .i64 1] 73))
    clear eA hA
    generalize (x11.alloc (.cells #[.string ⟨#[99, 47, 116, 47, 120]⟩, .int .i64 1] 73)) = x12 at *
    refine hK.out _ _ (hSB.out _ hB12.out) (fun hHeld => ?_)
    clear hK K
    try simp only [Act.put, List.setIfInBounds_toArray, List.set_cons_zero, List.set_cons_succ]
    refine wpAnyH_ready (rs := [37]) (by kernel_rfl) (by simp) (AllReadyH.cons rfl (fun K hK => ?_) AllReadyH.nil)
    go_simp
    obtain ⟨B, hB⟩ : ∃ X, X = x12.heap.size := ⟨_, rfl⟩
    go_wp2_with fail
    have eB : x12.heap.size = B := hB.symm
    rw [eB]
    have lB : w12.heap.size ≤ B := by rw [hB]; exact hB12.out.size
    have hB13 := Lib.hid (show Below w12.heap.size w12 (x12.alloc (.cells #[.bool false, .string ⟨#[99, 47, 116, 47, 120]⟩, .string (rv ⟨#[114]⟩ 1 9 false)] 85)) from below_alloc hB12.out (.cells #[.bool false, .string ⟨#[99, 47, 116, 47, 120]⟩, .string (rv ⟨#[114]⟩ 1 9 false)] 85))
    have HB_13 := Lib.hid (show (x12.alloc (.cells #[.bool false, .string ⟨#[99, 47, 116, 47, 120]⟩, .string (rv ⟨#[114]⟩ 1 9 false)] 85)).heap[B]? = some (.cells #[.bool false, .string ⟨#[99, 47, 116, 47, 120]⟩, .string (rv ⟨#[114]⟩ 1 9 false)] 85 (0, 0)) from hB ▸ heap_alloc_new x12 (.cells #[.bool false, .string ⟨#[99, 47, 116, 47, 120]⟩, .string (rv ⟨#[114]⟩ 1 9 false)] 85))
    have HA_13 := Lib.hid (show (x12.alloc (.cells #[.bool false, .string ⟨#[99, 47, 116, 47, 120]⟩, .string (rv ⟨#[114]⟩ 1 9 false)] 85)).heap[A]? = _ from blk_alloc HA_12.out (.cells #[.bool false, .string ⟨#[99, 47, 116, 47, 120]⟩, .string (rv ⟨#[114]⟩ 1 9 false)] 85))
    clear eB hB
    generalize (x12.alloc (.cells #[.bool false, .string ⟨#[99, 47, 116, 47, 120]⟩, .string (rv ⟨#[114]⟩ 1 9 false)] 85)) = x13 at *
    refine hK.out _ _ (hSB.out _ hB13.out) (fun hHeld => ?_)
    clear hK K
    try simp only [Act.put, List.setIfInBounds_toArray, List.set_cons_zero, List.set_cons_succ]
    refine wTake 38 ?_
    try simp only [Act.put, List.setIfInBounds_toArray, List.set_cons_zero, List.set_cons_succ]
    refine wpAnyH_ready (rs := [39]) (by kernel_rfl) (by simp) (AllReadyH.cons rfl (fun K hK => ?_) AllReadyH.nil)
    go_simp
    refine (same_any [⟨⟨#[99, 47, 116, 47, 120]⟩, 1⟩] [⟨false, ⟨#[99, 47, 116, 47, 120]⟩, rv ⟨#[114]⟩ 1 9 false⟩] (by simp) (by simp) _ _ _ _ _ _ _ _ _ _ 0 0 _ (Kd.R_below HRq0_105.out hB13.out) (Kd.R_below HRq1_106.out hB13.out) (R_one HA_13.out (Nat.zero_le _) trivial (PEl.k73_mkM _ 0 _ ⟨_, _⟩) rfl) (R_one HB_13.out (Nat.zero_le _) trivial (PEl.k85_mkM _ 0 _ ⟨_, _, _⟩) rfl)).mono ?_
    rintro e x14 ⟨rfl, hb⟩
    have hB14 := Lib.hid (below_next0 hB13.out hb)
    have HA_14 := Lib.hid ((hb.block _ (blk_lt HA_13.out)).trans HA_13.out)
    have HB_14 := Lib.hid ((hb.block _ (blk_lt HB_13.out)).trans HB_13.out)
    clear hb
    go_wp2_with fail
    refine hK.out _ _ (hSB.out _ hB14.out) (fun hHeld => ?_)
    clear hK K
    try simp only [Act.put, List.setIfInBounds_toArray, List.set_cons_zero, List.set_cons_succ]
    refine wpAnyH_cast (l' := #[true, true, true, true, true, true, true, true, true, true, true, true, true, true, true, true, true, true, true, true, true, true, true, true, true, true, true, true, true, true, true, true, true, true, true, true, true, true, true, true, false, false, false, false, false, false, false, false, false, false, false, false, false, false, false, false, false, false, false, false, false, false, false, false, false, false]) (by kernel_rfl) ?_
    exact REST.out A B x14 hB14.out
   ·
    go_simp
    obtain ⟨B, hB⟩ : ∃ X, X = x11.heap.size := ⟨_, rfl⟩
    go_wp2_with fail
    have eB : x11.heap.size = B := hB.symm
    rw [eB]
    have lB : w12.heap.size ≤ B := by rw [hB]; exact hB11.out.size
    have hB12 := Lib.hid (show Below w12.heap.size w12 (x11.alloc (.cells #[.bool false, .string ⟨#[99, 47, 116, 47, 120]⟩, .string (rv ⟨#[114]⟩ 1 9 false)] 85)) from below_alloc hB11.out (.cells #[.bool false, .string ⟨#[99, 47, 116, 47, 120]⟩, .string (rv ⟨#[114]⟩ 1 9 false)] 85))
    have HB_12 := Lib.hid (show (x11.alloc (.cells #[.bool false, .string ⟨#[99, 47, 116, 47, 120]⟩, .string (rv ⟨#[114]⟩ 1 9 false)] 85)).heap[B]? = some (.cells #[.bool false, .string ⟨#[99, 47, 116, 47, 120]⟩, .string (rv ⟨#[114]⟩ 1 9 false)] 85 (0, 0)) from hB ▸ heap_alloc_new x11 (.cells #[.bool false, .string ⟨#[99, 47, 116, 47, 120]⟩, .string (rv ⟨#[114]⟩ 1 9 false)] 85))
    clear eB hB
    generalize (x11.alloc (.cells #[.bool false, .string ⟨#[99, 47, 116, 47, 120]⟩, .string (rv ⟨#[114]⟩ 1 9 false)] 85)) = x12 at *
    refine hK.out _ _ (hSB.out _ hB12.out) (fun hHeld => ?_)
    clear hK K
    try simp only [Act.put, List.setIfInBounds_toArray, List.set_cons_zero, List.set_cons_succ]
    refine wpAnyH_ready (rs := [34]) (by kernel_rfl) (by simp) (AllReadyH.cons rfl (fun K hK => ?_) AllReadyH.nil)
    go_simp
    obtain ⟨A, hA⟩ : ∃ X, X = x12.heap.size := ⟨_, rfl⟩
    go_wp2_with fail
    have eA : x12.heap.size = A := hA.symm
    rw [eA]
    have lA : w12.heap.size ≤ A := by rw [hA]; exact hB12.out.size
    have hB13 := Lib.hid (show Below w12.heap.size w12 (x12.alloc (.cells #[.string ⟨#[99, 47, 116, 47, 120]⟩, .int .i64 1] 73)) from below_alloc hB12.out (.cells #[.string ⟨#[99, 47, 116, 47, 120]⟩, .int .i64 1] 73))
    have HA_13 := Lib.hid (show (x12.alloc (.cells #[.string ⟨#[99, 47, 116, 47, 120]⟩, .int .i64 1] 73)).heap[A]? = some (.cells #[.string ⟨#[99, 47, 116, 47, 120]⟩, .int .i64 1] 73 (0, 0)) from hA ▸ heap_alloc_new x12 (.cells #[.string ⟨#[99, 47, 116, 47, 120]⟩, .int .i64 1] 73))
    have HB_13 := Lib.hid (show (x12.alloc (.cells #[.string ⟨#[99, 47, 116, 47, 120]⟩, .int .i64 1] 73)).heap[B]? = _ from blk_alloc HB_12.out (.cells #[.string ⟨#[99, 47, 116, 47, 120]⟩, .int .i64 1] 73))
    clear eA hA
    generalize (x12.alloc (.cells #[.string ⟨#[99, 47, 116, 47, 120]⟩, .int .i64 1] 73)) = x13 at *
    refine hK.out _ _ (hSB.out _ hB13.out) (fun hHeld => ?_)
    clear hK K
    try simp only [Act.put, List.setIfInBounds_toArray, List.set_cons_zero, List.set_cons_succ]
    refine wTake 38 ?_
    try simp only [Act.put, List.setIfInBounds_toArray, List.set_cons_zero, List.set_cons_succ]
    refine wpAnyH_ready (rs := [39]) (by kernel_rfl) (by simp) (AllReadyH.cons rfl (fun K hK => ?_) AllReadyH.nil)
    go_simp
    refine (same_any [⟨⟨#[99, 47, 116, 47, 120]⟩, 1⟩] [⟨false, ⟨#[99, 47, 116, 47, 120]⟩, rv ⟨#[114]⟩ 1 9 false⟩] (by simp) (by simp) _ _ _ _ _ _ _ _ _ _ 0 0 _ (Kd.R_below HRq0_105.out hB13.out) (Kd.R_below HRq1_106.out hB13.out) (R_one HA_13.out (Nat.zero_le _) trivial (PEl.k73_mkM _ 0 _ ⟨_, _⟩) rfl) (R_one HB_13.out (Nat.zero_le _) trivial (PEl.k85_mkM _ 0 _ ⟨_, _, _⟩) rfl)).mono ?_
    rintro e x14 ⟨rfl, hb⟩
    have hB14 := Lib.hid (below_next0 hB13.out hb)
    have HB_14 := Lib.hid ((hb.block _ (blk_lt HB_13.out)).trans HB_13.out)
    have HA_14 := Lib.hid ((hb.block _ (blk_lt HA_13.out)).trans HA_13.out)
    clear hb
    go_wp2_with fail
    refine hK.out _ _ (hSB.out _ hB14.out) (fun hHeld => ?_)
    clear hK K
    try simp only [Act.put, List.setIfInBounds_toArray, List.set_cons_zero, List.set_cons_succ]
    refine wpAnyH_cast (l' := #[true, true, true, true, true, true, true, true, true, true, true, true, true, true, true, true, true, true, true, true, true, true, true, true, true, true, true, true, true, true, true, true, true, true, true, true, true, true, true, true, false, false, false, false, false, false, false, false, false, false, false, false, false, false, false, false, false, false, false, false, false, false, false, false, false, false]) (by kernel_rfl) ?_
    exact REST.out A B x14 hB14.out
 intro A' B' W2 hb2
 have hH2 := hSB.out _ hb2
 try dsimp only
 have hB2 := Lib.hid hb2
 clear hb2
 refine wTake 40 ?_
 refine wTake 41 ?_
 try simp only [Act.put, List.setIfInBounds_toArray, List.set_cons_zero, List.set_cons_succ]
 refine wTake 42 ?_
 try simp only [Act.put, List.setIfInBounds_toArray, List.set_cons_zero, List.set_cons_succ]
 refine wTake 43 ?_
 try simp only [Act.put, List.setIfInBounds_toArray, List.set_cons_zero, List.set_cons_succ]
 refine wTake 44 ?_
 try simp only [Act.put, List.setIfInBounds_toArray, List.set_cons_zero, List.set_cons_succ]
 refine wTake 45 ?_
 refine wTake 46 ?_
 refine wTake 47 ?_
 try simp only [Act.put, List.setIfInBounds_toArray, List.set_cons_zero, List.set_cons_succ]
 refine wTake 48 ?_
 try simp only [Act.put, List.setIfInBounds_toArray, List.set_cons_zero, List.set_cons_succ]
 refine wTake 49 ?_
 try simp only [Act.put, List.setIfInBounds_toArray, List.set_cons_zero, List.set_cons_succ]
 refine wTake 50 ?_
 try simp only [Act.put, List.setIfInBounds_toArray, List.set_cons_zero, List.set_cons_succ]
 refine wTake 51 ?_
 try simp only [Act.put, List.setIfInBounds_toArray, List.set_cons_zero, List.set_cons_succ]
 refine wTake 52 ?_
 try simp only [Act.put, List.setIfInBounds_toArray, List.set_cons_zero, List.set_cons_succ]
 refine wpAnyH_ready (rs := [53]) (by kernel_rfl) (by simp) (AllReadyH.cons rfl (fun K hK => ?_) AllReadyH.nil)
 go_simp
 with_reducible refine (val_any ⟨#[114]⟩ (by decide) 1 9 true _).mono ?_
 rintro e x21 ⟨rfl, hb⟩
 have hB21 := Lib.hid (below_next0 hB2.out hb)
 clear hb
 go_wp2_with fail
 refine hK.out _ _ (hSB.out _ hB21.out) (fun hHeld => ?_)
 clear hK K
 try simp only [Act.put, List.setIfInBounds_toArray, List.set_cons_zero, List.set_cons_succ]
 refine wTake 54 ?_
 refine wTake 55 ?_
 refine wTake 56 ?_
 try simp only [Act.put, List.setIfInBounds_toArray, List.set_cons_zero, List.set_cons_succ]
 refine wTake 57 ?_
 try simp only [Act.put, List.setIfInBounds_toArray, List.set_cons_zero, List.set_cons_succ]
 refine wTake 58 ?_
 try simp only [Act.put, List.setIfInBounds_toArray, List.set_cons_zero, List.set_cons_succ]
 refine wTake 59 ?_
 try simp only [Act.put, List.setIfInBounds_toArray, List.set_cons_zero, List.set_cons_succ]
 refine wTake 60 ?_
 try simp only [Act.put, List.setIfInBounds_toArray, List.set_cons_zero, List.set_cons_succ]
 refine wTake 61 ?_
 try simp only [Act.put, List.setIfInBounds_toArray, List.set_cons_zero, List.set_cons_succ]
 refine wpAnyH_ready (rs := [62]) (by kernel_rfl) (by simp) (AllReadyH.cons rfl (fun K hK => ?_) AllReadyH.nil)
 go_simp
 with_reducible refine (tval_any 0 1 _).mono ?_
 rintro e x22 ⟨rfl, hb⟩
 have hB22 := Lib.hid (below_next0 hB21.out hb)
 clear hb
 go_wp2_with fail
 refine hK.out _ _ (hSB.out _ hB22.out) (fun hHeld => ?_)
 clear hK K
 try simp only [Act.put, List.setIfInBounds_toArray, List.set_cons_zero, List.set_cons_succ]
 refine wTake 63 ?_
 refine wTake 64 ?_
 refine wTake 65 ?_
 try simp only [Act.put, List.setIfInBounds_toArray, List.set_cons_zero, List.set_cons_succ]
 refine wpAnyH_done (by kernel_rfl) ?_ _
 refine NoPanic.normal ?_
 go_wp2
 go_ret
 exact ⟨by first | rfl | (simp; done), HB_96.out.trans (hB22.out.mono HB_96.out.size)⟩
end Go.Proofs.Ytobanhbjkomieaa.RP
