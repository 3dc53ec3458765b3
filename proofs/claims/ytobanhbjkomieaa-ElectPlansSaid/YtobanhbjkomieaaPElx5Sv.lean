import Derived.Test.YtobanhbjkomieaaPElx0Sv
import Derived.Test.YtobanhbjkomieaaPElx3Sv
import Derived.Test.YtobanhbjkomieaaPElx4Sv
namespace Go.Proofs.Ytobanhbjkomieaa.PEl
open Go.RowKit Go.Proofs.YtobanhbjkomieaaW.PrintWords Go.Proofs.YtobanhbjkomieaaW.PrintLast Go.Proofs.YtobanhbjkomieaaW.PrintMore
attribute [local go_sem] max2_int min2_int max_two min_two max_three min_three max_four min_four   -- for this text's walks alone
set_option linter.unusedVariables false
set_option linter.unusedSimpArgs false
mutual
def batonref20_Elect.j0 : Nat → ByteArray → ByteArray → ByteArray → Int → Int → Bool → ByteArray → Int → Int → Bool → Bool → Int → Int → Int → Int → Option ((List (S73)) × (List (S85)) × Int)
 | 0, _, _, _, _, _, _, _, _, _, _, _, _, _, _, _ => none
 | k + 1, x1, x2, x3, x4, x5, x28, aL, aM, aN, aO, aP, aQ, aI, aJ, aR => if x28 = true then (some (([] : List (S73)), ([] : List (S85)), 1)) else ((batonref20_May.f k aL aM aN aO aP aQ aI aJ aR).bind fun bk => (if bk = true then ((batonref20_Live.f aL aM aN aO aP aQ aI aJ aR).bind fun aU => (if aU = true then (batonref20_Elect.j1 k x1 x2 x3 x4 false aL aM aN aO aP aQ aI aJ aR aI aJ) else (batonref20_Elect.j1 k x1 x2 x3 x4 (decide (aI ≥ x5)) aL aM aN aO aP aQ aI aJ aR aI aJ))) else (some (([] : List (S73)), ([] : List (S85)), 4))))
def batonref20_Elect.j1 : Nat → ByteArray → ByteArray → ByteArray → Int → Bool → ByteArray → Int → Int → Bool → Bool → Int → Int → Int → Int → Int → Int → Option ((List (S73)) × (List (S85)) × Int)
 | 0, _, _, _, _, _, _, _, _, _, _, _, _, _, _, _, _ => none
 | k + 1, x1, x2, x3, x4, x44, aL, aM, aN, aO, aP, aQ, aI, aJ, aR, bh, aW => if x44 = true then (some (([] : List (S73)), ([] : List (S85)), 60)) else (if aW ≥ 1099511627776 then (batonref20_Elect.j2 k x1 x2 x3 x4 true aL aM aN aO aP aQ aI aJ aR bh aW) else ((batonref20_Live.f aL aM aN aO aP aQ aI aJ aR).bind fun bl => (if bl = true then (batonref20_Elect.j2 k x1 x2 x3 x4 false aL aM aN aO aP aQ aI aJ aR bh aW) else (batonref20_Elect.j2 k x1 x2 x3 x4 (decide (bh ≥ 1048576)) aL aM aN aO aP aQ aI aJ aR bh aW))))
def batonref20_Elect.j2 : Nat → ByteArray → ByteArray → ByteArray → Int → Bool → ByteArray → Int → Int → Bool → Bool → Int → Int → Int → Int → Int → Int → Option ((List (S73)) × (List (S85)) × Int)
 | 0, _, _, _, _, _, _, _, _, _, _, _, _, _, _, _, _ => none
 | k + 1, x1, x2, x3, x4, x58, aL, aM, aN, aO, aP, aQ, aI, aJ, aR, bh, aW => if x58 = true then (some (([] : List (S73)), ([] : List (S85)), 40)) else ((batonref20_Live.f aL aM aN aO aP aQ aI aJ aR).bind fun bm => (if bm = true then ((batonref20_conds.f aL aM aN aO aP aQ aI aJ aR x1 x2 true).bind fun aF => ((batonref20_puts.f x1 x2 x3 (wrap64 (aW + 1)) x4 false).bind fun aD => ((batonref20_putsTenant.f x1 bh (wrap64 (aW + 1))).bind fun az => (some (aF, (([(⟨aD.1, aD.2.1, aD.2.2⟩ : S85), (⟨az.1, az.2.1, az.2.2⟩ : S85)] : List (S85))), 0))))) else ((batonref20_conds.f aL aM aN aO aP aQ aI aJ aR x1 x2 true).bind fun aG => ((batonref20_puts.f x1 x2 x3 (wrap64 (aW + 1)) x4 false).bind fun aE => ((batonref20_putsTenant.f x1 (wrap64 (bh + 1)) (wrap64 (aW + 1))).bind fun aA => (some (aG, (([(⟨aE.1, aE.2.1, aE.2.2⟩ : S85), (⟨aA.1, aA.2.1, aA.2.2⟩ : S85)] : List (S85))), 0)))))))
end
def batonref20_Elect.f (k : Nat) (ah : ByteArray) (ai : Int) (aj : Int) (ak : Bool) (al : Bool) (am : Int) (ac : Int) (ab : Int) (an : Int) (a1 : ByteArray) (a2 : ByteArray) (a3 : ByteArray) (a4 : Int) (a5 : Int) : Option ((List (S73)) × (List (S85)) × Int) := (batonref20_wrong.f a1 a2 a4).bind fun bn => (if bn = true then (batonref20_Elect.j0 k a1 a2 a3 a4 a5 true ah ai aj ak al am ac ab an) else ((batonref11_Name.f a3).bind fun aV => (if aV = true then (batonref20_Elect.j0 k a1 a2 a3 a4 a5 (decide (a5 < 1)) ah ai aj ak al am ac ab an) else (batonref20_Elect.j0 k a1 a2 a3 a4 a5 true ah ai aj ak al am ac ab an))))
def batonref20_Elect.T14 : Bool × List (List Nat × List Nat) := (true, [([], []), ([], []), ([], []), ([0, 1, 2], [0, 1, 2]), ([], []), ([], []), ([], []), ([4, 5, 6, 3], [4, 5, 6]), ([], []), ([], []), ([8, 9, 7], [8, 9]), ([7, 10], [7, 10]), ([3, 11], [3, 11]), ([12, 10, 0, 1, 2, 3, 4, 5, 6, 7, 8, 9, 10, 11, 12], [12]), ([13, 0, 1, 2, 3, 4, 5, 6, 7, 8, 9, 10, 11, 12, 13], [])])
def batonref20_Elect.B14 : List Nat := [0, 0, 0, 7, 0, 0, 0, 127, 0, 0, 1023, 2047, 4095, 8191, 16383]
theorem batonref20_Elect.tab14 : rtab .any (opsOf Try.f26 14) = batonref20_Elect.T14 := by kernel_rfl
theorem batonref20_Elect.bits14 : waitsOk batonref20_Elect.T14.2 batonref20_Elect.B14 = true := by kernel_rfl
set_option maxHeartbeats 8000000 in
set_option maxRecDepth 100000 in
theorem batonref20_Elect.calls (k : Nat) (ah : ByteArray) (ai : Int) (aj : Int) (ak : Bool) (al : Bool) (am : Int) (ac : Int) (ab : Int) (an : Int) (a1 : ByteArray) (a2 : ByteArray) (a3 : ByteArray) (a4 : Int) (a5 : Int) (r1 : List (S73)) (r2 : List (S85)) (r3 : Int) (w : World) (h : batonref20_Elect.f k ah ai aj ak al am ac ab an a1 a2 a3 a4 a5 = some (r1, r2, r3)) :
  Calls Try.prog 26 #[.agg #[.string ah, .int .i64 ai, .int .i64 aj, .bool ak, .bool al, .int .i64 am, .int .i64 ac, .int .i64 ab, .int .i64 an], .string a1, .string a2, .string a3, .int .i64 a4, .int .i64 a5] w fun e w' => ∃ v0_ v1_ : Value, e = .returned (.tuple #[.agg #[v0_, v1_], .int .i64 r3]) ∧ Kd.R k73 73 w' w.heap.size (fun _ => True) v0_ r1 ∧ Kd.R k85 85 w' w.heap.size (fun _ => True) v1_ r2 ∧ Below w.heap.size w w' := by
 have hu27 := Try.underlying27
 have hu34 := Try.underlying34
 have hu25 := Try.underlying25
 have hu23 := Try.underlying23
 have HB := Aside0.mk (Below.refl w.heap.size w)
 have H : ((batonref20_wrong.f a1 a2 a4).bind fun bn => (if bn = true then (batonref20_Elect.j0 k a1 a2 a3 a4 a5 true ah ai aj ak al am ac ab an) else ((batonref11_Name.f a3).bind fun aV => (if aV = true then (batonref20_Elect.j0 k a1 a2 a3 a4 a5 (decide (a5 < 1)) ah ai aj ak al am ac ab an) else (batonref20_Elect.j0 k a1 a2 a3 a4 a5 true ah ai aj ak al am ac ab an))))) = some (r1, r2, r3) := h
 clear h
 have bx := Aside0.mk H
 clear H
 go_enter Try.func26, Try.ntmps26
 go_upto_region 1 with (first | ((with_reducible refine gate_dst (N := 6) rfl ?_); refine box_event ?hg (N := 6) ?hd (cs := #[.string ah, .int .i64 ai, .int .i64 aj, .bool ak, .bool al, .int .i64 am, .int .i64 ac, .int .i64 ab, .int .i64 an]) (t := 27) ?hr ?_; (case hd => rfl); (case hg => rfl); (case hr => first | (go_simp; done) | (go_simp; rfl)); intro ad hg w8 hbox hb; have n0_ := Aside0.mk (below_step (by repeat (first | (with_reducible first | exact HB.out | apply below_alloc | apply pw_below_drewN | apply below_drew1) | exact HB.out)) hb); have n1_ := Aside0.mk (hbox); have n2_ := Aside0.mk ((by rw [hg]; exact (below_size (by repeat (first | (with_reducible first | exact HB.out | apply below_alloc | apply pw_below_drewN | apply below_drew1) | exact HB.out))) : w.heap.size ≤ ad)); have n3_ := Aside0.mk ((by rw [hg]; exact (below_size (by repeat (first | (with_reducible first | exact HB.out | apply below_alloc | apply pw_below_drewN | apply below_drew1) | exact HB.out))) : w.heap.size ≤ ad)); clear HB; have HB := n0_; have aa := n1_; have GW128 := n2_; have aq := n3_; clear n0_ n1_ n2_ n3_; clear hb hbox hg) | ((with_reducible refine gate_dst (N := 12) rfl ?_); refine box_event ?hg (N := 12) ?hd (cs := #[.slice none 0 0, .slice none 0 0]) (t := 34) ?hr ?_; (case hd => rfl); (case hg => rfl); (case hr => first | (go_simp; done) | (go_simp; rfl)); intro af hg w9 hbox hb; have n0_ := Aside0.mk (blk_below (g := ad) (o := .cells #[.string ah, .int .i64 ai, .int .i64 aj, .bool ak, .bool al, .int .i64 am, .int .i64 ac, .int .i64 ab, .int .i64 an] 27 (0, 0)) (by (with_reducible repeat (first | refine blk_drewN ?_ _ | refine blk_drew ?_ | refine blk_alloc ?_ _)); exact aa.out) hb); have n1_ := Aside0.mk (below_step (by repeat (first | (with_reducible first | exact HB.out | apply below_alloc | apply pw_below_drewN | apply below_drew1 | refine below_set ?_ aq.out) | exact HB.out)) hb); have n2_ := Aside0.mk (hbox); have n3_ := Aside0.mk ((by rw [hg]; exact (below_size (by repeat (first | (with_reducible first | exact HB.out | apply below_alloc | apply pw_below_drewN | apply below_drew1 | refine below_set ?_ aq.out) | exact HB.out))) : w.heap.size ≤ af)); have n4_ := Aside0.mk ((by rw [hg]; exact (below_size (by repeat (first | (with_reducible first | exact HB.out | apply below_alloc | apply pw_below_drewN | apply below_drew1 | refine below_set ?_ aq.out) | exact HB.out))) : w.heap.size ≤ af)); have n5_ := Aside0.mk ((by rw [hg]; exact Nat.ne_of_lt (blk_lt (g := ad) (o := .cells #[.string ah, .int .i64 ai, .int .i64 aj, .bool ak, .bool al, .int .i64 am, .int .i64 ac, .int .i64 ab, .int .i64 an] 27 (0, 0)) (by (with_reducible repeat (first | refine blk_drewN ?_ _ | refine blk_drew ?_ | refine blk_alloc ?_ _)); exact aa.out)) : ad ≠ af)); have n6_ := Aside0.mk ((by rw [hg]; exact Nat.ne_of_gt (blk_lt (g := ad) (o := .cells #[.string ah, .int .i64 ai, .int .i64 aj, .bool ak, .bool al, .int .i64 am, .int .i64 ac, .int .i64 ab, .int .i64 an] 27 (0, 0)) (by (with_reducible repeat (first | refine blk_drewN ?_ _ | refine blk_drew ?_ | refine blk_alloc ?_ _)); exact aa.out)) : af ≠ ad)); clear aa; clear HB; have aa := n0_; have HB := n1_; have ag := n2_; have GW129 := n3_; have av := n4_; have ap := n5_; have aK := n6_; clear n0_ n1_ n2_ n3_ n4_ n5_ n6_; clear hb hbox hg))
 (try simp only [Act.put, List.setIfInBounds_toArray, List.set_cons_zero, List.set_cons_succ])
 go_cut [28] (fun v28 wc => ∃ (kq : Nat) (bs : Bool), v28 = .bool bs ∧ Aside0 (batonref20_Elect.j0 kq a1 a2 a3 a4 a5 bs ah ai aj ak al am ac ab an = some (r1, r2, r3)) ∧ Aside0 (kq ≤ k) ∧ Aside0 (wc.heap[ad]? = some (.cells #[.string ah, .int .i64 ai, .int .i64 aj, .bool ak, .bool al, .int .i64 am, .int .i64 ac, .int .i64 ab, .int .i64 an] 27 (0, 0))) ∧ Aside0 (wc.heap[af]? = some (.cells #[(.slice none 0 0), (.slice none 0 0)] 34 (0, 0))) ∧ Aside0 (Below w.heap.size w wc))
 case first =>
  have H := bx.out
  clear bx
  replace H := Option.bind_eq_some_iff.mp H
  obtain ⟨bn, A100, H⟩ := H
  replace H : (if bn = true then (batonref20_Elect.j0 k a1 a2 a3 a4 a5 true ah ai aj ak al am ac ab an) else ((batonref11_Name.f a3).bind fun aV => (if aV = true then (batonref20_Elect.j0 k a1 a2 a3 a4 a5 (decide (a5 < 1)) ah ai aj ak al am ac ab an) else (batonref20_Elect.j0 k a1 a2 a3 a4 a5 true ah ai aj ak al am ac ab an)))) = some (r1, r2, r3) := H
  have A10 := Aside0.mk A100
  clear A100
  by_cases c11 : bn = true
  ·
   subst c11
   have H1 : (batonref20_Elect.j0 k a1 a2 a3 a4 a5 true ah ai aj ak al am ac ab an) = some (r1, r2, r3) := by rw [if_pos rfl] at H; exact H
   clear H
   have H := H1
   clear H1
   have H' := Aside0.mk H
   clear H
   go_wp2_with (first | ((with_reducible refine gate_callee (f := 109) rfl ?_); refine goesL_ (some 19) rfl rfl Try.func109 (by kernel_rfl) rfl #[.string a1, .string a2, .int .i64 a4] rfl (by (try simp only [List.map_toArray, List.map_cons, List.map_nil]); first | done | rfl | (simp only [List.length_drop, List.length_take]; rfl)) ?_; (with_reducible refine (batonref20_wrong.calls a1 a2 a4 true _ A10.out).mono ?_); rintro e w' ⟨rfl, ⟨nd, rfl⟩⟩; refine ⟨_, rfl, ?_⟩))
   go_meet
   case rel => exact ⟨_, (true), (by first | rfl | (simp; done) | (simp [*]; done)), H', ⟨by first | omega | exact Nat.le_refl _⟩, ⟨by (with_reducible repeat (first | refine blk_drewN ?_ _ | refine blk_drew ?_ | refine blk_alloc ?_ _)); exact aa.out⟩, ⟨by (with_reducible repeat (first | refine blk_drewN ?_ _ | refine blk_drew ?_ | refine blk_alloc ?_ _)); exact ag.out⟩, ⟨by repeat (first | (with_reducible first | exact HB.out | apply below_alloc | apply pw_below_drewN | apply below_drew1 | refine below_set ?_ aq.out | refine below_set ?_ av.out) | exact HB.out)⟩⟩
  ·
   replace c11 := Bool.eq_false_iff.mpr c11
   subst c11
   have H1 : ((batonref11_Name.f a3).bind fun aV => (if aV = true then (batonref20_Elect.j0 k a1 a2 a3 a4 a5 (decide (a5 < 1)) ah ai aj ak al am ac ab an) else (batonref20_Elect.j0 k a1 a2 a3 a4 a5 true ah ai aj ak al am ac ab an))) = some (r1, r2, r3) := by rw [if_neg (show ¬ (false = true) by decide)] at H; exact H
   clear H
   have H := H1
   clear H1
   replace H := Option.bind_eq_some_iff.mp H
   obtain ⟨aV, A120, H⟩ := H
   replace H : (if aV = true then (batonref20_Elect.j0 k a1 a2 a3 a4 a5 (decide (a5 < 1)) ah ai aj ak al am ac ab an) else (batonref20_Elect.j0 k a1 a2 a3 a4 a5 true ah ai aj ak al am ac ab an)) = some (r1, r2, r3) := H
   have A12 := Aside0.mk A120
   clear A120
   by_cases c13 : aV = true
   ·
    subst c13
    have H1 : (batonref20_Elect.j0 k a1 a2 a3 a4 a5 (decide (a5 < 1)) ah ai aj ak al am ac ab an) = some (r1, r2, r3) := by rw [if_pos rfl] at H; exact H
    clear H
    have H := H1
    clear H1
    have H' := Aside0.mk H
    clear H
    go_wp2_with (first | ((with_reducible refine gate_callee (f := 109) rfl ?_); refine goesL_ (some 19) rfl rfl Try.func109 (by kernel_rfl) rfl #[.string a1, .string a2, .int .i64 a4] rfl (by (try simp only [List.map_toArray, List.map_cons, List.map_nil]); first | done | rfl | (simp only [List.length_drop, List.length_take]; rfl)) ?_; (with_reducible refine (batonref20_wrong.calls a1 a2 a4 false _ A10.out).mono ?_); rintro e w' ⟨rfl, ⟨nd, rfl⟩⟩; refine ⟨_, rfl, ?_⟩) | (go_at_call 94; (with_reducible refine (batonref11_Name.calls a3 true _ A12.out).mono ?_); rintro e w' ⟨rfl, ⟨nd, rfl⟩⟩))
    go_meet
    case rel => exact ⟨_, (decide (a5 < 1)), (by first | rfl | (simp; done) | (simp [*]; done)), H', ⟨by first | omega | exact Nat.le_refl _⟩, ⟨by (with_reducible repeat (first | refine blk_drewN ?_ _ | refine blk_drew ?_ | refine blk_alloc ?_ _)); exact aa.out⟩, ⟨by (with_reducible repeat (first | refine blk_drewN ?_ _ | refine blk_drew ?_ | refine blk_alloc ?_ _)); exact ag.out⟩, ⟨by repeat (first | (with_reducible first | exact HB.out | apply below_alloc | apply pw_below_drewN | apply below_drew1 | refine below_set ?_ aq.out | refine below_set ?_ av.out) | exact HB.out)⟩⟩
   ·
    replace c13 := Bool.eq_false_iff.mpr c13
    subst c13
    have H1 : (batonref20_Elect.j0 k a1 a2 a3 a4 a5 true ah ai aj ak al am ac ab an) = some (r1, r2, r3) := by rw [if_neg (show ¬ (false = true) by decide)] at H; exact H
    clear H
    have H := H1
    clear H1
    have H' := Aside0.mk H
    clear H
    go_wp2_with (first | ((with_reducible refine gate_callee (f := 109) rfl ?_); refine goesL_ (some 19) rfl rfl Try.func109 (by kernel_rfl) rfl #[.string a1, .string a2, .int .i64 a4] rfl (by (try simp only [List.map_toArray, List.map_cons, List.map_nil]); first | done | rfl | (simp only [List.length_drop, List.length_take]; rfl)) ?_; (with_reducible refine (batonref20_wrong.calls a1 a2 a4 false _ A10.out).mono ?_); rintro e w' ⟨rfl, ⟨nd, rfl⟩⟩; refine ⟨_, rfl, ?_⟩) | (go_at_call 94; (with_reducible refine (batonref11_Name.calls a3 false _ A12.out).mono ?_); rintro e w' ⟨rfl, ⟨nd, rfl⟩⟩))
    go_meet
    case rel => exact ⟨_, (true), (by first | rfl | (simp; done) | (simp [*]; done)), H', ⟨by first | omega | exact Nat.le_refl _⟩, ⟨by (with_reducible repeat (first | refine blk_drewN ?_ _ | refine blk_drew ?_ | refine blk_alloc ?_ _)); exact aa.out⟩, ⟨by (with_reducible repeat (first | refine blk_drewN ?_ _ | refine blk_drew ?_ | refine blk_alloc ?_ _)); exact ag.out⟩, ⟨by repeat (first | (with_reducible first | exact HB.out | apply below_alloc | apply pw_below_drewN | apply below_drew1 | refine below_set ?_ aq.out | refine below_set ?_ av.out) | exact HB.out)⟩⟩
 case rest =>
  clear bx
  try clear c1
  try clear c2
  try clear p2
  try clear c10
  try clear c11
  try clear c13
  obtain ⟨kq, bs, rfl, HA, HJ6, aa, ag, HB⟩ := hcut
  cases kq with
  | zero => exact absurd HA.out (by simp [batonref20_Elect.j0])
  | succ kj6 =>
   have H := HA.out
   clear HA
   simp only [batonref20_Elect.j0] at H
   by_cases c14 : bs = true
   ·
    subst c14
    have H1 : (some (([] : List (S73)), ([] : List (S85)), 1)) = some (r1, r2, r3) := by rw [if_pos rfl] at H; exact H
    clear H
    have H := H1
    clear H1
    simp only [Option.some.injEq, Prod.mk.injEq] at H
    obtain ⟨rfl, rfl, rfl⟩ := H
    have d4 := aK.out
    have d5 := ap.out
    have bB : wc.cell? ⟨af, 0, none⟩ = some (.slice none 0 0) := (blk_cell ag.out 0).trans rfl
    have bC : wc.cell? ⟨af, 1, none⟩ = some (.slice none 0 0) := (blk_cell ag.out 1).trans rfl
    have bD := blk_frozen ag.out 0
    have bE := blk_frozen ag.out 1
    go_wp2
    refine bodyPost_ret (results_ct rfl _ _ af 34 #[.slice none 0 0, .slice none 0 0] (0, 0) _ rfl (by (with_reducible repeat (first | refine blk_drewN ?_ _ | refine blk_drew ?_ | refine blk_alloc ?_ _)); refine blk_put (cs := #[.slice none 0 0, .slice none 0 0]) ?_ 1 _ rfl; (with_reducible repeat (first | refine blk_drewN ?_ _ | refine blk_drew ?_ | refine blk_alloc ?_ _)); refine blk_put (cs := #[.slice none 0 0, .slice none 0 0]) ?_ 0 _ rfl; (with_reducible repeat (first | refine blk_drewN ?_ _ | refine blk_drew ?_ | refine blk_alloc ?_ _)); exact ag.out) Try.underlying34 rfl (by kernel_rfl)) rfl ?_
    exact ⟨_, _, by first | rfl | (simp [errW_none, errW_some] <;> rfl) | (simp [*, errW_none, errW_some] <;> rfl), by first | exact Kd.R_nil _ _ _ _ _ | exact Kd.N_nil _ _ _ _ _ | exact Kd.V_nil _ _ _ _ _ | exact Kd.Q_nil _ _ _ _ _ | exact Kd.S_nil _ _ _ _ _, by first | exact Kd.R_nil _ _ _ _ _ | exact Kd.N_nil _ _ _ _ _ | exact Kd.V_nil _ _ _ _ _ | exact Kd.Q_nil _ _ _ _ _ | exact Kd.S_nil _ _ _ _ _, by repeat (first | (with_reducible first | exact HB.out | apply below_alloc | apply pw_below_drewN | apply below_drew1 | refine below_set ?_ aq.out | refine below_set ?_ av.out) | exact HB.out)⟩
   ·
    replace c14 := Bool.eq_false_iff.mpr c14
    subst c14
    have H1 : ((batonref20_May.f kj6 ah ai aj ak al am ac ab an).bind fun bk => (if bk = true then ((batonref20_Live.f ah ai aj ak al am ac ab an).bind fun aU => (if aU = true then (batonref20_Elect.j1 kj6 a1 a2 a3 a4 false ah ai aj ak al am ac ab an ac ab) else (batonref20_Elect.j1 kj6 a1 a2 a3 a4 (decide (ac ≥ a5)) ah ai aj ak al am ac ab an ac ab))) else (some (([] : List (S73)), ([] : List (S85)), 4)))) = some (r1, r2, r3) := by rw [if_neg (show ¬ (false = true) by decide)] at H; exact H
    clear H
    have H := H1
    clear H1
    replace H := Option.bind_eq_some_iff.mp H
    obtain ⟨bk, A170, H⟩ := H
    replace H : (if bk = true then ((batonref20_Live.f ah ai aj ak al am ac ab an).bind fun aU => (if aU = true then (batonref20_Elect.j1 kj6 a1 a2 a3 a4 false ah ai aj ak al am ac ab an ac ab) else (batonref20_Elect.j1 kj6 a1 a2 a3 a4 (decide (ac ≥ a5)) ah ai aj ak al am ac ab an ac ab))) else (some (([] : List (S73)), ([] : List (S85)), 4))) = some (r1, r2, r3) := H
    have A17 := Aside0.mk A170
    clear A170
    by_cases c18 : bk = true
    ·
     subst c18
     have H1 : ((batonref20_Live.f ah ai aj ak al am ac ab an).bind fun aU => (if aU = true then (batonref20_Elect.j1 kj6 a1 a2 a3 a4 false ah ai aj ak al am ac ab an ac ab) else (batonref20_Elect.j1 kj6 a1 a2 a3 a4 (decide (ac ≥ a5)) ah ai aj ak al am ac ab an ac ab))) = some (r1, r2, r3) := by rw [if_pos rfl] at H; exact H
     clear H
     have H := H1
     clear H1
     have bz := Aside0.mk H
     clear H
     have d6 := ap.out
     have d7 := aK.out
     have bF : wc.cell? ⟨ad, 0, none⟩ = some (.string ah) := (blk_cell aa.out 0).trans rfl
     have bG : wc.cell? ⟨ad, 1, none⟩ = some (.int .i64 ai) := (blk_cell aa.out 1).trans rfl
     have bH : wc.cell? ⟨ad, 2, none⟩ = some (.int .i64 aj) := (blk_cell aa.out 2).trans rfl
     have bI : wc.cell? ⟨ad, 3, none⟩ = some (.bool ak) := (blk_cell aa.out 3).trans rfl
     have bJ : wc.cell? ⟨ad, 4, none⟩ = some (.bool al) := (blk_cell aa.out 4).trans rfl
     have bK : wc.cell? ⟨ad, 5, none⟩ = some (.int .i64 am) := (blk_cell aa.out 5).trans rfl
     have bL : wc.cell? ⟨ad, 6, none⟩ = some (.int .i64 ac) := (blk_cell aa.out 6).trans rfl
     have bM : wc.cell? ⟨ad, 7, none⟩ = some (.int .i64 ab) := (blk_cell aa.out 7).trans rfl
     have bN : wc.cell? ⟨ad, 8, none⟩ = some (.int .i64 an) := (blk_cell aa.out 8).trans rfl
     have bO := blk_frozen aa.out 0
     have bP := blk_frozen aa.out 1
     have bQ := blk_frozen aa.out 2
     have bR := blk_frozen aa.out 3
     have bS := blk_frozen aa.out 4
     have bT := blk_frozen aa.out 5
     have bU := blk_frozen aa.out 6
     have bV := blk_frozen aa.out 7
     have bW := blk_frozen aa.out 8
     go_upto_region 6 with (first | ((with_reducible refine gate_callee (f := 29) rfl ?_); refine goesL_ (some 31) rfl rfl Try.func29 (by kernel_rfl) rfl #[.agg #[.string ah, .int .i64 ai, .int .i64 aj, .bool ak, .bool al, .int .i64 am, .int .i64 ac, .int .i64 ab, .int .i64 an]] rfl (by (try simp only [List.map_toArray, List.map_cons, List.map_nil]); first | done | rfl | (simp only [List.length_drop, List.length_take]; rfl)) ?_; (with_reducible refine (batonref20_May.calls kj6 ah ai aj ak al am ac ab an true _ A17.out).mono ?_); rintro e w22 ⟨rfl, hb⟩; refine ⟨_, rfl, ?_⟩; have n0_ := Aside0.mk (blk_below (g := ad) (o := .cells #[.string ah, .int .i64 ai, .int .i64 aj, .bool ak, .bool al, .int .i64 am, .int .i64 ac, .int .i64 ab, .int .i64 an] 27 (0, 0)) (by (with_reducible repeat (first | refine blk_drewN ?_ _ | refine blk_drew ?_ | refine blk_alloc ?_ _)); exact aa.out) hb); have n1_ := Aside0.mk (blk_below (g := af) (o := .cells #[.slice none 0 0, .slice none 0 0] 34 (0, 0)) (by (with_reducible repeat (first | refine blk_drewN ?_ _ | refine blk_drew ?_ | refine blk_alloc ?_ _)); exact ag.out) hb); have n2_ := Aside0.mk (below_step (by repeat (first | (with_reducible first | exact HB.out | apply below_alloc | apply pw_below_drewN | apply below_drew1 | refine below_set ?_ aq.out | refine below_set ?_ av.out) | exact HB.out)) hb); clear aa; clear ag; clear HB; have aa := n0_; have ag := n1_; have HB := n2_; clear n0_ n1_ n2_; (try clear hb); (try clear hb2); (try clear hk); (try clear hi); have bX : w22.cell? ⟨ad, 0, none⟩ = some (.string ah) := (blk_cell aa.out 0).trans rfl; have bY : w22.cell? ⟨ad, 1, none⟩ = some (.int .i64 ai) := (blk_cell aa.out 1).trans rfl; have bZ : w22.cell? ⟨ad, 2, none⟩ = some (.int .i64 aj) := (blk_cell aa.out 2).trans rfl; have b0 : w22.cell? ⟨ad, 3, none⟩ = some (.bool ak) := (blk_cell aa.out 3).trans rfl; have b1 : w22.cell? ⟨ad, 4, none⟩ = some (.bool al) := (blk_cell aa.out 4).trans rfl; have b2 : w22.cell? ⟨ad, 5, none⟩ = some (.int .i64 am) := (blk_cell aa.out 5).trans rfl; have b3 : w22.cell? ⟨ad, 6, none⟩ = some (.int .i64 ac) := (blk_cell aa.out 6).trans rfl; have b4 : w22.cell? ⟨ad, 7, none⟩ = some (.int .i64 ab) := (blk_cell aa.out 7).trans rfl; have b5 : w22.cell? ⟨ad, 8, none⟩ = some (.int .i64 an) := (blk_cell aa.out 8).trans rfl; have b6 := blk_frozen aa.out 0; have b7 := blk_frozen aa.out 1; have b8 := blk_frozen aa.out 2; have b9 := blk_frozen aa.out 3; have ca := blk_frozen aa.out 4; have cb := blk_frozen aa.out 5; have cc := blk_frozen aa.out 6; have cd := blk_frozen aa.out 7; have ce := blk_frozen aa.out 8) | ((with_reducible refine gate_dst (N := 14) rfl ?_); refine box_event ?hg (N := 14) ?hd (cs := #[.int .i64 0, .int .i64 0]) (t := 25) ?hr ?_; (case hd => rfl); (case hg => rfl); (case hr => first | (go_simp; done) | (go_simp; rfl)); intro ao hg w24 hbox hb; have n0_ := Aside0.mk (blk_below (g := ad) (o := .cells #[.string ah, .int .i64 ai, .int .i64 aj, .bool ak, .bool al, .int .i64 am, .int .i64 ac, .int .i64 ab, .int .i64 an] 27 (0, 0)) (by (with_reducible repeat (first | refine blk_drewN ?_ _ | refine blk_drew ?_ | refine blk_alloc ?_ _)); exact aa.out) hb); have n1_ := Aside0.mk (blk_below (g := af) (o := .cells #[.slice none 0 0, .slice none 0 0] 34 (0, 0)) (by (with_reducible repeat (first | refine blk_drewN ?_ _ | refine blk_drew ?_ | refine blk_alloc ?_ _)); exact ag.out) hb); have n2_ := Aside0.mk (below_step (by repeat (first | (with_reducible first | exact HB.out | apply below_alloc | apply pw_below_drewN | apply below_drew1 | refine below_set ?_ aq.out | refine below_set ?_ av.out) | exact HB.out)) hb); have n3_ := Aside0.mk (hbox); have n4_ := Aside0.mk ((by rw [hg]; exact (below_size (by repeat (first | (with_reducible first | exact HB.out | apply below_alloc | apply pw_below_drewN | apply below_drew1 | refine below_set ?_ aq.out | refine below_set ?_ av.out) | exact HB.out))) : w.heap.size ≤ ao)); have n5_ := Aside0.mk ((by rw [hg]; exact (below_size (by repeat (first | (with_reducible first | exact HB.out | apply below_alloc | apply pw_below_drewN | apply below_drew1 | refine below_set ?_ aq.out | refine below_set ?_ av.out) | exact HB.out))) : w.heap.size ≤ ao)); have n6_ := Aside0.mk ((by rw [hg]; exact Nat.ne_of_lt (blk_lt (g := ad) (o := .cells #[.string ah, .int .i64 ai, .int .i64 aj, .bool ak, .bool al, .int .i64 am, .int .i64 ac, .int .i64 ab, .int .i64 an] 27 (0, 0)) (by (with_reducible repeat (first | refine blk_drewN ?_ _ | refine blk_drew ?_ | refine blk_alloc ?_ _)); exact aa.out)) : ad ≠ ao)); have n7_ := Aside0.mk ((by rw [hg]; exact Nat.ne_of_gt (blk_lt (g := ad) (o := .cells #[.string ah, .int .i64 ai, .int .i64 aj, .bool ak, .bool al, .int .i64 am, .int .i64 ac, .int .i64 ab, .int .i64 an] 27 (0, 0)) (by (with_reducible repeat (first | refine blk_drewN ?_ _ | refine blk_drew ?_ | refine blk_alloc ?_ _)); exact aa.out)) : ao ≠ ad)); have n8_ := Aside0.mk ((by rw [hg]; exact Nat.ne_of_lt (blk_lt (g := af) (o := .cells #[.slice none 0 0, .slice none 0 0] 34 (0, 0)) (by (with_reducible repeat (first | refine blk_drewN ?_ _ | refine blk_drew ?_ | refine blk_alloc ?_ _)); exact ag.out)) : af ≠ ao)); have n9_ := Aside0.mk ((by rw [hg]; exact Nat.ne_of_gt (blk_lt (g := af) (o := .cells #[.slice none 0 0, .slice none 0 0] 34 (0, 0)) (by (with_reducible repeat (first | refine blk_drewN ?_ _ | refine blk_drew ?_ | refine blk_alloc ?_ _)); exact ag.out)) : ao ≠ af)); clear aa; clear ag; clear HB; have aa := n0_; have ag := n1_; have HB := n2_; have ae := n3_; have GW133 := n4_; have ay := n5_; have aH := n6_; have a8 := n7_; have aB := n8_; have aC := n9_; clear n0_ n1_ n2_ n3_ n4_ n5_ n6_ n7_ n8_ n9_; clear hb hbox hg; have d8 := a8.out; have d9 := aH.out; have ea := aC.out; have eb := aB.out; have cf : w24.cell? ⟨ao, 0, none⟩ = some (.int .i64 0) := (blk_cell ae.out 0).trans rfl; have cg : w24.cell? ⟨ao, 1, none⟩ = some (.int .i64 0) := (blk_cell ae.out 1).trans rfl; have ch := blk_frozen ae.out 0; have ci := blk_frozen ae.out 1))
     (try simp only [Act.put, List.setIfInBounds_toArray, List.set_cons_zero, List.set_cons_succ])
     go_cut [44] (fun v44 wc => ∃ (kq : Nat) (bt : Bool), v44 = .bool bt ∧ Aside0 (batonref20_Elect.j1 kq a1 a2 a3 a4 bt ah ai aj ak al am ac ab an ac ab = some (r1, r2, r3)) ∧ Aside0 (kq ≤ kj6) ∧ Aside0 (wc.heap[ad]? = some (.cells #[.string ah, .int .i64 ai, .int .i64 aj, .bool ak, .bool al, .int .i64 am, .int .i64 ac, .int .i64 ab, .int .i64 an] 27 (0, 0))) ∧ Aside0 (wc.heap[af]? = some (.cells #[(.slice none 0 0), (.slice none 0 0)] 34 (0, 0))) ∧ Aside0 (wc.heap[ao]? = some (.cells #[.int .i64 ac, .int .i64 ab] 25 (0, 0))) ∧ Aside0 (Below w.heap.size w wc))
     case first =>
      have H := bz.out
      clear bz
      replace H := Option.bind_eq_some_iff.mp H
      obtain ⟨aU, A280, H⟩ := H
      replace H : (if aU = true then (batonref20_Elect.j1 kj6 a1 a2 a3 a4 false ah ai aj ak al am ac ab an ac ab) else (batonref20_Elect.j1 kj6 a1 a2 a3 a4 (decide (ac ≥ a5)) ah ai aj ak al am ac ab an ac ab)) = some (r1, r2, r3) := H
      have A28 := Aside0.mk A280
      clear A280
      by_cases c29 : aU = true
      ·
       subst c29
       have H1 : (batonref20_Elect.j1 kj6 a1 a2 a3 a4 false ah ai aj ak al am ac ab an ac ab) = some (r1, r2, r3) := by rw [if_pos rfl] at H; exact H
       clear H
       have H := H1
       clear H1
       have H' := Aside0.mk H
       clear H
       have ec := ap.out
       have ed := aK.out
       have ee := aH.out
       have ef := a8.out
       have cj : w24.cell? ⟨ad, 0, none⟩ = some (.string ah) := (blk_cell aa.out 0).trans rfl
       have ck : w24.cell? ⟨ad, 1, none⟩ = some (.int .i64 ai) := (blk_cell aa.out 1).trans rfl
       have cl : w24.cell? ⟨ad, 2, none⟩ = some (.int .i64 aj) := (blk_cell aa.out 2).trans rfl
       have cm : w24.cell? ⟨ad, 3, none⟩ = some (.bool ak) := (blk_cell aa.out 3).trans rfl
       have cn : w24.cell? ⟨ad, 4, none⟩ = some (.bool al) := (blk_cell aa.out 4).trans rfl
       have co : w24.cell? ⟨ad, 5, none⟩ = some (.int .i64 am) := (blk_cell aa.out 5).trans rfl
       have cp : w24.cell? ⟨ad, 6, none⟩ = some (.int .i64 ac) := (blk_cell aa.out 6).trans rfl
       have cq : w24.cell? ⟨ad, 7, none⟩ = some (.int .i64 ab) := (blk_cell aa.out 7).trans rfl
       have cr : w24.cell? ⟨ad, 8, none⟩ = some (.int .i64 an) := (blk_cell aa.out 8).trans rfl
       have ct := blk_frozen aa.out 0
       have cu := blk_frozen aa.out 1
       have cv := blk_frozen aa.out 2
       have cw := blk_frozen aa.out 3
       have cx := blk_frozen aa.out 4
       have cy := blk_frozen aa.out 5
       have cz := blk_frozen aa.out 6
       have cA := blk_frozen aa.out 7
       have cB := blk_frozen aa.out 8
       go_wp2_with (first | ((with_reducible refine gate_callee (f := 31) rfl ?_); refine goesL_ (some 37) rfl rfl Try.func31 (by kernel_rfl) rfl #[.agg #[.string ah, .int .i64 ai, .int .i64 aj, .bool ak, .bool al, .int .i64 am, .int .i64 ac, .int .i64 ab, .int .i64 an]] rfl (by (try simp only [List.map_toArray, List.map_cons, List.map_nil]); first | done | rfl | (simp only [List.length_drop, List.length_take]; rfl)) ?_; (with_reducible refine (batonref20_Live.calls ah ai aj ak al am ac ab an true _ A28.out).mono ?_); rintro e w33 ⟨rfl, hb⟩; refine ⟨_, rfl, ?_⟩; have n0_ := Aside0.mk (blk_below (g := ad) (o := .cells #[.string ah, .int .i64 ai, .int .i64 aj, .bool ak, .bool al, .int .i64 am, .int .i64 ac, .int .i64 ab, .int .i64 an] 27 (0, 0)) (by (with_reducible repeat (first | refine blk_drewN ?_ _ | refine blk_drew ?_ | refine blk_alloc ?_ _)); refine blk_far ?_ aH.out _; (with_reducible repeat (first | refine blk_drewN ?_ _ | refine blk_drew ?_ | refine blk_alloc ?_ _)); refine blk_far ?_ aH.out _; (with_reducible repeat (first | refine blk_drewN ?_ _ | refine blk_drew ?_ | refine blk_alloc ?_ _)); exact aa.out) hb); have n1_ := Aside0.mk (blk_below (g := af) (o := .cells #[.slice none 0 0, .slice none 0 0] 34 (0, 0)) (by (with_reducible repeat (first | refine blk_drewN ?_ _ | refine blk_drew ?_ | refine blk_alloc ?_ _)); refine blk_far ?_ aB.out _; (with_reducible repeat (first | refine blk_drewN ?_ _ | refine blk_drew ?_ | refine blk_alloc ?_ _)); refine blk_far ?_ aB.out _; (with_reducible repeat (first | refine blk_drewN ?_ _ | refine blk_drew ?_ | refine blk_alloc ?_ _)); exact ag.out) hb); have n2_ := Aside0.mk (blk_below (g := ao) (o := .cells #[.int .i64 ac, .int .i64 ab] 25 (0, 0)) (by (with_reducible repeat (first | refine blk_drewN ?_ _ | refine blk_drew ?_ | refine blk_alloc ?_ _)); refine blk_put (cs := #[.int .i64 ac, .int .i64 0]) ?_ 1 _ rfl; (with_reducible repeat (first | refine blk_drewN ?_ _ | refine blk_drew ?_ | refine blk_alloc ?_ _)); refine blk_put (cs := #[.int .i64 0, .int .i64 0]) ?_ 0 _ rfl; (with_reducible repeat (first | refine blk_drewN ?_ _ | refine blk_drew ?_ | refine blk_alloc ?_ _)); exact ae.out) hb); have n3_ := Aside0.mk (below_step (by repeat (first | (with_reducible first | exact HB.out | apply below_alloc | apply pw_below_drewN | apply below_drew1 | refine below_set ?_ aq.out | refine below_set ?_ av.out | refine below_set ?_ ay.out) | exact HB.out)) hb); clear aa; clear ag; clear ae; clear HB; have aa := n0_; have ag := n1_; have ae := n2_; have HB := n3_; clear n0_ n1_ n2_ n3_; (try clear hb); (try clear hb2); (try clear hk); (try clear hi)))
       go_meet
       case rel => exact ⟨_, (false), (by first | rfl | (simp; done) | (simp [*]; done)), H', ⟨by have := HJ6.out; first | omega | exact Nat.le_refl _⟩, ⟨by (with_reducible repeat (first | refine blk_drewN ?_ _ | refine blk_drew ?_ | refine blk_alloc ?_ _)); exact aa.out⟩, ⟨by (with_reducible repeat (first | refine blk_drewN ?_ _ | refine blk_drew ?_ | refine blk_alloc ?_ _)); exact ag.out⟩, ⟨by (with_reducible repeat (first | refine blk_drewN ?_ _ | refine blk_drew ?_ | refine blk_alloc ?_ _)); exact ae.out⟩, ⟨by repeat (first | (with_reducible first | exact HB.out | apply below_alloc | apply pw_below_drewN | apply below_drew1 | refine below_set ?_ aq.out | refine below_set ?_ av.out | refine below_set ?_ ay.out) | exact HB.out)⟩⟩
      ·
       replace c29 := Bool.eq_false_iff.mpr c29
       subst c29
       have H1 : (batonref20_Elect.j1 kj6 a1 a2 a3 a4 (decide (ac ≥ a5)) ah ai aj ak al am ac ab an ac ab) = some (r1, r2, r3) := by rw [if_neg (show ¬ (false = true) by decide)] at H; exact H
       clear H
       have H := H1
       clear H1
       have H' := Aside0.mk H
       clear H
       have eg := ap.out
       have eh := aK.out
       have ei := aH.out
       have ej := a8.out
       have cC : w24.cell? ⟨ad, 0, none⟩ = some (.string ah) := (blk_cell aa.out 0).trans rfl
       have cD : w24.cell? ⟨ad, 1, none⟩ = some (.int .i64 ai) := (blk_cell aa.out 1).trans rfl
       have cE : w24.cell? ⟨ad, 2, none⟩ = some (.int .i64 aj) := (blk_cell aa.out 2).trans rfl
       have cF : w24.cell? ⟨ad, 3, none⟩ = some (.bool ak) := (blk_cell aa.out 3).trans rfl
       have cG : w24.cell? ⟨ad, 4, none⟩ = some (.bool al) := (blk_cell aa.out 4).trans rfl
       have cH : w24.cell? ⟨ad, 5, none⟩ = some (.int .i64 am) := (blk_cell aa.out 5).trans rfl
       have cI : w24.cell? ⟨ad, 6, none⟩ = some (.int .i64 ac) := (blk_cell aa.out 6).trans rfl
       have cJ : w24.cell? ⟨ad, 7, none⟩ = some (.int .i64 ab) := (blk_cell aa.out 7).trans rfl
       have cK : w24.cell? ⟨ad, 8, none⟩ = some (.int .i64 an) := (blk_cell aa.out 8).trans rfl
       have cL := blk_frozen aa.out 0
       have cM := blk_frozen aa.out 1
       have cN := blk_frozen aa.out 2
       have cO := blk_frozen aa.out 3
       have cP := blk_frozen aa.out 4
       have cQ := blk_frozen aa.out 5
       have cR := blk_frozen aa.out 6
       have cS := blk_frozen aa.out 7
       have cT := blk_frozen aa.out 8
       go_wp2_with (first | ((with_reducible refine gate_callee (f := 31) rfl ?_); refine goesL_ (some 37) rfl rfl Try.func31 (by kernel_rfl) rfl #[.agg #[.string ah, .int .i64 ai, .int .i64 aj, .bool ak, .bool al, .int .i64 am, .int .i64 ac, .int .i64 ab, .int .i64 an]] rfl (by (try simp only [List.map_toArray, List.map_cons, List.map_nil]); first | done | rfl | (simp only [List.length_drop, List.length_take]; rfl)) ?_; (with_reducible refine (batonref20_Live.calls ah ai aj ak al am ac ab an false _ A28.out).mono ?_); rintro e w37 ⟨rfl, hb⟩; refine ⟨_, rfl, ?_⟩; have n0_ := Aside0.mk (blk_below (g := ad) (o := .cells #[.string ah, .int .i64 ai, .int .i64 aj, .bool ak, .bool al, .int .i64 am, .int .i64 ac, .int .i64 ab, .int .i64 an] 27 (0, 0)) (by (with_reducible repeat (first | refine blk_drewN ?_ _ | refine blk_drew ?_ | refine blk_alloc ?_ _)); refine blk_far ?_ aH.out _; (with_reducible repeat (first | refine blk_drewN ?_ _ | refine blk_drew ?_ | refine blk_alloc ?_ _)); refine blk_far ?_ aH.out _; (with_reducible repeat (first | refine blk_drewN ?_ _ | refine blk_drew ?_ | refine blk_alloc ?_ _)); exact aa.out) hb); have n1_ := Aside0.mk (blk_below (g := af) (o := .cells #[.slice none 0 0, .slice none 0 0] 34 (0, 0)) (by (with_reducible repeat (first | refine blk_drewN ?_ _ | refine blk_drew ?_ | refine blk_alloc ?_ _)); refine blk_far ?_ aB.out _; (with_reducible repeat (first | refine blk_drewN ?_ _ | refine blk_drew ?_ | refine blk_alloc ?_ _)); refine blk_far ?_ aB.out _; (with_reducible repeat (first | refine blk_drewN ?_ _ | refine blk_drew ?_ | refine blk_alloc ?_ _)); exact ag.out) hb); have n2_ := Aside0.mk (blk_below (g := ao) (o := .cells #[.int .i64 ac, .int .i64 ab] 25 (0, 0)) (by (with_reducible repeat (first | refine blk_drewN ?_ _ | refine blk_drew ?_ | refine blk_alloc ?_ _)); refine blk_put (cs := #[.int .i64 ac, .int .i64 0]) ?_ 1 _ rfl; (with_reducible repeat (first | refine blk_drewN ?_ _ | refine blk_drew ?_ | refine blk_alloc ?_ _)); refine blk_put (cs := #[.int .i64 0, .int .i64 0]) ?_ 0 _ rfl; (with_reducible repeat (first | refine blk_drewN ?_ _ | refine blk_drew ?_ | refine blk_alloc ?_ _)); exact ae.out) hb); have n3_ := Aside0.mk (below_step (by repeat (first | (with_reducible first | exact HB.out | apply below_alloc | apply pw_below_drewN | apply below_drew1 | refine below_set ?_ aq.out | refine below_set ?_ av.out | refine below_set ?_ ay.out) | exact HB.out)) hb); clear aa; clear ag; clear ae; clear HB; have aa := n0_; have ag := n1_; have ae := n2_; have HB := n3_; clear n0_ n1_ n2_ n3_; (try clear hb); (try clear hb2); (try clear hk); (try clear hi); have ek := aC.out; have el := aB.out; have cU : w37.cell? ⟨ao, 0, none⟩ = some (.int .i64 ac) := (blk_cell ae.out 0).trans rfl; have cV : w37.cell? ⟨ao, 1, none⟩ = some (.int .i64 ab) := (blk_cell ae.out 1).trans rfl; have cW := blk_frozen ae.out 0; have cX := blk_frozen ae.out 1))
       go_meet
       case rel => exact ⟨_, (decide (ac ≥ a5)), (by first | rfl | (simp; done) | (simp [*]; done)), H', ⟨by have := HJ6.out; first | omega | exact Nat.le_refl _⟩, ⟨by (with_reducible repeat (first | refine blk_drewN ?_ _ | refine blk_drew ?_ | refine blk_alloc ?_ _)); exact aa.out⟩, ⟨by (with_reducible repeat (first | refine blk_drewN ?_ _ | refine blk_drew ?_ | refine blk_alloc ?_ _)); exact ag.out⟩, ⟨by (with_reducible repeat (first | refine blk_drewN ?_ _ | refine blk_drew ?_ | refine blk_alloc ?_ _)); exact ae.out⟩, ⟨by repeat (first | (with_reducible first | exact HB.out | apply below_alloc | apply pw_below_drewN | apply below_drew1 | refine below_set ?_ aq.out | refine below_set ?_ av.out | refine below_set ?_ ay.out) | exact HB.out)⟩⟩
     case rest =>
      clear bz
      try clear c1
      try clear c2
      try clear p2
      try clear c3
      try clear c10
      try clear c11
      try clear c13
      try clear c14
      try clear c15
      try clear c18
      try clear c20
      try clear c25
      try clear c26
      try clear c29
      try clear c30
      try clear c31
      try clear c34
      try clear c35
      try clear c38
      try clear bB
      try clear bC
      try clear bF
      try clear bG
      try clear bH
      try clear bI
      try clear bJ
      try clear bK
      try clear bL
      try clear bM
      try clear bN
      try clear bX
      try clear bY
      try clear bZ
      try clear b0
      try clear b1
      try clear b2
      try clear b3
      try clear b4
      try clear b5
      try clear cf
      try clear cg
      try clear cj
      try clear ck
      try clear cl
      try clear cm
      try clear cn
      try clear co
      try clear cp
      try clear cq
      try clear cr
      try clear cC
      try clear cD
      try clear cE
      try clear cF
      try clear cG
      try clear cH
      try clear cI
      try clear cJ
      try clear cK
      try clear cU
      try clear cV
      try clear bD
      try clear bE
      try clear bO
      try clear bP
      try clear bQ
      try clear bR
      try clear bS
      try clear bT
      try clear bU
      try clear bV
      try clear bW
      try clear b6
      try clear b7
      try clear b8
      try clear b9
      try clear ca
      try clear cb
      try clear cc
      try clear cd
      try clear ce
      try clear ch
      try clear ci
      try clear ct
      try clear cu
      try clear cv
      try clear cw
      try clear cx
      try clear cy
      try clear cz
      try clear cA
      try clear cB
      try clear cL
      try clear cM
      try clear cN
      try clear cO
      try clear cP
      try clear cQ
      try clear cR
      try clear cS
      try clear cT
      try clear cW
      try clear cX
      try clear p2
      obtain ⟨kq, bt, rfl, HA, HJ18, aa, ag, ae, HB⟩ := hcut
      cases kq with
      | zero => exact absurd HA.out (by simp [batonref20_Elect.j1])
      | succ kj18 =>
       have H := HA.out
       clear HA
       simp only [batonref20_Elect.j1] at H
       by_cases c40 : bt = true
       ·
        subst c40
        have H1 : (some (([] : List (S73)), ([] : List (S85)), 60)) = some (r1, r2, r3) := by rw [if_pos rfl] at H; exact H
        clear H
        have H := H1
        clear H1
        simp only [Option.some.injEq, Prod.mk.injEq] at H
        obtain ⟨rfl, rfl, rfl⟩ := H
        have em := aK.out
        have en := ap.out
        have eo := aB.out
        have ep := aC.out
        have cY : wc.cell? ⟨af, 0, none⟩ = some (.slice none 0 0) := (blk_cell ag.out 0).trans rfl
        have cZ : wc.cell? ⟨af, 1, none⟩ = some (.slice none 0 0) := (blk_cell ag.out 1).trans rfl
        have c0 := blk_frozen ag.out 0
        have c7 := blk_frozen ag.out 1
        go_wp2
        refine bodyPost_ret (results_ct rfl _ _ af 34 #[.slice none 0 0, .slice none 0 0] (0, 0) _ rfl (by (with_reducible repeat (first | refine blk_drewN ?_ _ | refine blk_drew ?_ | refine blk_alloc ?_ _)); refine blk_put (cs := #[.slice none 0 0, .slice none 0 0]) ?_ 1 _ rfl; (with_reducible repeat (first | refine blk_drewN ?_ _ | refine blk_drew ?_ | refine blk_alloc ?_ _)); refine blk_put (cs := #[.slice none 0 0, .slice none 0 0]) ?_ 0 _ rfl; (with_reducible repeat (first | refine blk_drewN ?_ _ | refine blk_drew ?_ | refine blk_alloc ?_ _)); exact ag.out) Try.underlying34 rfl (by kernel_rfl)) rfl ?_
        exact ⟨_, _, by first | rfl | (simp [errW_none, errW_some] <;> rfl) | (simp [*, errW_none, errW_some] <;> rfl), by first | exact Kd.R_nil _ _ _ _ _ | exact Kd.N_nil _ _ _ _ _ | exact Kd.V_nil _ _ _ _ _ | exact Kd.Q_nil _ _ _ _ _ | exact Kd.S_nil _ _ _ _ _, by first | exact Kd.R_nil _ _ _ _ _ | exact Kd.N_nil _ _ _ _ _ | exact Kd.V_nil _ _ _ _ _ | exact Kd.Q_nil _ _ _ _ _ | exact Kd.S_nil _ _ _ _ _, by repeat (first | (with_reducible first | exact HB.out | apply below_alloc | apply pw_below_drewN | apply below_drew1 | refine below_set ?_ aq.out | refine below_set ?_ av.out | refine below_set ?_ ay.out) | exact HB.out)⟩
       ·
        replace c40 := Bool.eq_false_iff.mpr c40
        subst c40
        have H1 : (if ab ≥ 1099511627776 then (batonref20_Elect.j2 kj18 a1 a2 a3 a4 true ah ai aj ak al am ac ab an ac ab) else ((batonref20_Live.f ah ai aj ak al am ac ab an).bind fun bl => (if bl = true then (batonref20_Elect.j2 kj18 a1 a2 a3 a4 false ah ai aj ak al am ac ab an ac ab) else (batonref20_Elect.j2 kj18 a1 a2 a3 a4 (decide (ac ≥ 1048576)) ah ai aj ak al am ac ab an ac ab)))) = some (r1, r2, r3) := by rw [if_neg (show ¬ (false = true) by decide)] at H; exact H
        clear H
        have H := H1
        clear H1
        have bA := Aside0.mk H
        clear H
        go_upto_region 8 with (fail)
        go_cut [58] (fun v58 wc => ∃ (kq : Nat) (bu : Bool), v58 = .bool bu ∧ Aside0 (batonref20_Elect.j2 kq a1 a2 a3 a4 bu ah ai aj ak al am ac ab an ac ab = some (r1, r2, r3)) ∧ Aside0 (kq ≤ kj18) ∧ Aside0 (wc.heap[ad]? = some (.cells #[.string ah, .int .i64 ai, .int .i64 aj, .bool ak, .bool al, .int .i64 am, .int .i64 ac, .int .i64 ab, .int .i64 an] 27 (0, 0))) ∧ Aside0 (wc.heap[af]? = some (.cells #[(.slice none 0 0), (.slice none 0 0)] 34 (0, 0))) ∧ Aside0 (wc.heap[ao]? = some (.cells #[.int .i64 ac, .int .i64 ab] 25 (0, 0))) ∧ Aside0 (Below w.heap.size w wc))
        case first =>
         have H := bA.out
         clear bA
         by_cases c45 : ab ≥ 1099511627776
         ·
          rw [if_pos c45] at H
          have c45b0 : decide (1099511627776 ≤ ab) = true := decide_eq_true c45
          clear c45
          (first | rw [c45b0] | (simp only [i64_w, i32_w]; rw [c45b0]) | skip)
          have H' := Aside0.mk H
          clear H
          have eq := a8.out
          have er := aH.out
          have es := aC.out
          have et := aB.out
          have c8 : wc.cell? ⟨ao, 0, none⟩ = some (.int .i64 ac) := (blk_cell ae.out 0).trans rfl
          have c9 : wc.cell? ⟨ao, 1, none⟩ = some (.int .i64 ab) := (blk_cell ae.out 1).trans rfl
          have da := blk_frozen ae.out 0
          have db := blk_frozen ae.out 1
          go_wp2
          go_meet
          case rel => exact ⟨_, (true), (by first | rfl | (simp; done) | (simp [*]; done)), H', ⟨by have := HJ6.out; have := HJ18.out; first | omega | exact Nat.le_refl _⟩, ⟨by (with_reducible repeat (first | refine blk_drewN ?_ _ | refine blk_drew ?_ | refine blk_alloc ?_ _)); exact aa.out⟩, ⟨by (with_reducible repeat (first | refine blk_drewN ?_ _ | refine blk_drew ?_ | refine blk_alloc ?_ _)); exact ag.out⟩, ⟨by (with_reducible repeat (first | refine blk_drewN ?_ _ | refine blk_drew ?_ | refine blk_alloc ?_ _)); exact ae.out⟩, ⟨by repeat (first | (with_reducible first | exact HB.out | apply below_alloc | apply pw_below_drewN | apply below_drew1 | refine below_set ?_ aq.out | refine below_set ?_ av.out | refine below_set ?_ ay.out) | exact HB.out)⟩⟩
         ·
          rw [if_neg c45] at H
          have c45b0 : decide (1099511627776 ≤ ab) = false := decide_eq_false c45
          clear c45
          (first | rw [c45b0] | (simp only [i64_w, i32_w]; rw [c45b0]) | skip)
          replace H := Option.bind_eq_some_iff.mp H
          obtain ⟨bl, A490, H⟩ := H
          replace H : (if bl = true then (batonref20_Elect.j2 kj18 a1 a2 a3 a4 false ah ai aj ak al am ac ab an ac ab) else (batonref20_Elect.j2 kj18 a1 a2 a3 a4 (decide (ac ≥ 1048576)) ah ai aj ak al am ac ab an ac ab)) = some (r1, r2, r3) := H
          have A49 := Aside0.mk A490
          clear A490
          by_cases c50 : bl = true
          ·
           subst c50
           have H1 : (batonref20_Elect.j2 kj18 a1 a2 a3 a4 false ah ai aj ak al am ac ab an ac ab) = some (r1, r2, r3) := by rw [if_pos rfl] at H; exact H
           clear H
           have H := H1
           clear H1
           have H' := Aside0.mk H
           clear H
           have eu := a8.out
           have ev := aH.out
           have ew := aC.out
           have ex := aB.out
           have dc : wc.cell? ⟨ao, 0, none⟩ = some (.int .i64 ac) := (blk_cell ae.out 0).trans rfl
           have dd : wc.cell? ⟨ao, 1, none⟩ = some (.int .i64 ab) := (blk_cell ae.out 1).trans rfl
           have de := blk_frozen ae.out 0
           have df := blk_frozen ae.out 1
           have ey := ap.out
           have ez := aK.out
           have dg : wc.cell? ⟨ad, 0, none⟩ = some (.string ah) := (blk_cell aa.out 0).trans rfl
           have dh : wc.cell? ⟨ad, 1, none⟩ = some (.int .i64 ai) := (blk_cell aa.out 1).trans rfl
           have di : wc.cell? ⟨ad, 2, none⟩ = some (.int .i64 aj) := (blk_cell aa.out 2).trans rfl
           have dj : wc.cell? ⟨ad, 3, none⟩ = some (.bool ak) := (blk_cell aa.out 3).trans rfl
           have dk : wc.cell? ⟨ad, 4, none⟩ = some (.bool al) := (blk_cell aa.out 4).trans rfl
           have dl : wc.cell? ⟨ad, 5, none⟩ = some (.int .i64 am) := (blk_cell aa.out 5).trans rfl
           have dm : wc.cell? ⟨ad, 6, none⟩ = some (.int .i64 ac) := (blk_cell aa.out 6).trans rfl
           have dn : wc.cell? ⟨ad, 7, none⟩ = some (.int .i64 ab) := (blk_cell aa.out 7).trans rfl
           have dp : wc.cell? ⟨ad, 8, none⟩ = some (.int .i64 an) := (blk_cell aa.out 8).trans rfl
           have dq := blk_frozen aa.out 0
           have dr := blk_frozen aa.out 1
           have dt := blk_frozen aa.out 2
           have du := blk_frozen aa.out 3
           have dv := blk_frozen aa.out 4
           have dw := blk_frozen aa.out 5
           have dx := blk_frozen aa.out 6
           have dy := blk_frozen aa.out 7
           have dz := blk_frozen aa.out 8
           go_wp2_with (first | (go_at_call 31; (with_reducible refine (batonref20_Live.calls ah ai aj ak al am ac ab an true _ A49.out).mono ?_); rintro e w56 ⟨rfl, hb⟩; have n0_ := Aside0.mk (blk_below (g := ad) (o := .cells #[.string ah, .int .i64 ai, .int .i64 aj, .bool ak, .bool al, .int .i64 am, .int .i64 ac, .int .i64 ab, .int .i64 an] 27 (0, 0)) (by (with_reducible repeat (first | refine blk_drewN ?_ _ | refine blk_drew ?_ | refine blk_alloc ?_ _)); exact aa.out) hb); have n1_ := Aside0.mk (blk_below (g := af) (o := .cells #[.slice none 0 0, .slice none 0 0] 34 (0, 0)) (by (with_reducible repeat (first | refine blk_drewN ?_ _ | refine blk_drew ?_ | refine blk_alloc ?_ _)); exact ag.out) hb); have n2_ := Aside0.mk (blk_below (g := ao) (o := .cells #[.int .i64 ac, .int .i64 ab] 25 (0, 0)) (by (with_reducible repeat (first | refine blk_drewN ?_ _ | refine blk_drew ?_ | refine blk_alloc ?_ _)); exact ae.out) hb); have n3_ := Aside0.mk (below_step (by repeat (first | (with_reducible first | exact HB.out | apply below_alloc | apply pw_below_drewN | apply below_drew1 | refine below_set ?_ aq.out | refine below_set ?_ av.out | refine below_set ?_ ay.out) | exact HB.out)) hb); clear aa; clear ag; clear ae; clear HB; have aa := n0_; have ag := n1_; have ae := n2_; have HB := n3_; clear n0_ n1_ n2_ n3_; (try clear hb); (try clear hb2); (try clear hk); (try clear hi)))
           go_meet
           case rel => exact ⟨_, (false), (by first | rfl | (simp; done) | (simp [*]; done)), H', ⟨by have := HJ6.out; have := HJ18.out; first | omega | exact Nat.le_refl _⟩, ⟨by (with_reducible repeat (first | refine blk_drewN ?_ _ | refine blk_drew ?_ | refine blk_alloc ?_ _)); exact aa.out⟩, ⟨by (with_reducible repeat (first | refine blk_drewN ?_ _ | refine blk_drew ?_ | refine blk_alloc ?_ _)); exact ag.out⟩, ⟨by (with_reducible repeat (first | refine blk_drewN ?_ _ | refine blk_drew ?_ | refine blk_alloc ?_ _)); exact ae.out⟩, ⟨by repeat (first | (with_reducible first | exact HB.out | apply below_alloc | apply pw_below_drewN | apply below_drew1 | refine below_set ?_ aq.out | refine below_set ?_ av.out | refine below_set ?_ ay.out) | exact HB.out)⟩⟩
          ·
           replace c50 := Bool.eq_false_iff.mpr c50
           subst c50
           have H1 : (batonref20_Elect.j2 kj18 a1 a2 a3 a4 (decide (ac ≥ 1048576)) ah ai aj ak al am ac ab an ac ab) = some (r1, r2, r3) := by rw [if_neg (show ¬ (false = true) by decide)] at H; exact H
           clear H
           have H := H1
           clear H1
           have H' := Aside0.mk H
           clear H
           have eA := a8.out
           have eB := aH.out
           have eC := aC.out
           have eD := aB.out
           have dA : wc.cell? ⟨ao, 0, none⟩ = some (.int .i64 ac) := (blk_cell ae.out 0).trans rfl
           have dB : wc.cell? ⟨ao, 1, none⟩ = some (.int .i64 ab) := (blk_cell ae.out 1).trans rfl
           have dC := blk_frozen ae.out 0
           have dD := blk_frozen ae.out 1
           have eE := ap.out
           have eF := aK.out
           have dE : wc.cell? ⟨ad, 0, none⟩ = some (.string ah) := (blk_cell aa.out 0).trans rfl
           have dF : wc.cell? ⟨ad, 1, none⟩ = some (.int .i64 ai) := (blk_cell aa.out 1).trans rfl
           have dG : wc.cell? ⟨ad, 2, none⟩ = some (.int .i64 aj) := (blk_cell aa.out 2).trans rfl
           have dH : wc.cell? ⟨ad, 3, none⟩ = some (.bool ak) := (blk_cell aa.out 3).trans rfl
           have dI : wc.cell? ⟨ad, 4, none⟩ = some (.bool al) := (blk_cell aa.out 4).trans rfl
           have dJ : wc.cell? ⟨ad, 5, none⟩ = some (.int .i64 am) := (blk_cell aa.out 5).trans rfl
           have dK : wc.cell? ⟨ad, 6, none⟩ = some (.int .i64 ac) := (blk_cell aa.out 6).trans rfl
           have dL : wc.cell? ⟨ad, 7, none⟩ = some (.int .i64 ab) := (blk_cell aa.out 7).trans rfl
           have dM : wc.cell? ⟨ad, 8, none⟩ = some (.int .i64 an) := (blk_cell aa.out 8).trans rfl
           have dN := blk_frozen aa.out 0
           have dO := blk_frozen aa.out 1
           have dP := blk_frozen aa.out 2
           have dQ := blk_frozen aa.out 3
           have dR := blk_frozen aa.out 4
           have dS := blk_frozen aa.out 5
           have dT := blk_frozen aa.out 6
           have dU := blk_frozen aa.out 7
           have dV := blk_frozen aa.out 8
           go_wp2_with (first | (go_at_call 31; (with_reducible refine (batonref20_Live.calls ah ai aj ak al am ac ab an false _ A49.out).mono ?_); rintro e w62 ⟨rfl, hb⟩; have n0_ := Aside0.mk (blk_below (g := ad) (o := .cells #[.string ah, .int .i64 ai, .int .i64 aj, .bool ak, .bool al, .int .i64 am, .int .i64 ac, .int .i64 ab, .int .i64 an] 27 (0, 0)) (by (with_reducible repeat (first | refine blk_drewN ?_ _ | refine blk_drew ?_ | refine blk_alloc ?_ _)); exact aa.out) hb); have n1_ := Aside0.mk (blk_below (g := af) (o := .cells #[.slice none 0 0, .slice none 0 0] 34 (0, 0)) (by (with_reducible repeat (first | refine blk_drewN ?_ _ | refine blk_drew ?_ | refine blk_alloc ?_ _)); exact ag.out) hb); have n2_ := Aside0.mk (blk_below (g := ao) (o := .cells #[.int .i64 ac, .int .i64 ab] 25 (0, 0)) (by (with_reducible repeat (first | refine blk_drewN ?_ _ | refine blk_drew ?_ | refine blk_alloc ?_ _)); exact ae.out) hb); have n3_ := Aside0.mk (below_step (by repeat (first | (with_reducible first | exact HB.out | apply below_alloc | apply pw_below_drewN | apply below_drew1 | refine below_set ?_ aq.out | refine below_set ?_ av.out | refine below_set ?_ ay.out) | exact HB.out)) hb); clear aa; clear ag; clear ae; clear HB; have aa := n0_; have ag := n1_; have ae := n2_; have HB := n3_; clear n0_ n1_ n2_ n3_; (try clear hb); (try clear hb2); (try clear hk); (try clear hi); have dW : w62.cell? ⟨ao, 0, none⟩ = some (.int .i64 ac) := (blk_cell ae.out 0).trans rfl; have dX : w62.cell? ⟨ao, 1, none⟩ = some (.int .i64 ab) := (blk_cell ae.out 1).trans rfl; have dY := blk_frozen ae.out 0; have dZ := blk_frozen ae.out 1))
           go_meet
           case rel => exact ⟨_, (decide (ac ≥ 1048576)), (by first | rfl | (simp; done) | (simp [*]; done)), H', ⟨by have := HJ6.out; have := HJ18.out; first | omega | exact Nat.le_refl _⟩, ⟨by (with_reducible repeat (first | refine blk_drewN ?_ _ | refine blk_drew ?_ | refine blk_alloc ?_ _)); exact aa.out⟩, ⟨by (with_reducible repeat (first | refine blk_drewN ?_ _ | refine blk_drew ?_ | refine blk_alloc ?_ _)); exact ag.out⟩, ⟨by (with_reducible repeat (first | refine blk_drewN ?_ _ | refine blk_drew ?_ | refine blk_alloc ?_ _)); exact ae.out⟩, ⟨by repeat (first | (with_reducible first | exact HB.out | apply below_alloc | apply pw_below_drewN | apply below_drew1 | refine below_set ?_ aq.out | refine below_set ?_ av.out | refine below_set ?_ ay.out) | exact HB.out)⟩⟩
        case rest =>
         clear bA
         try clear c1
         try clear c2
         try clear p2
         try clear c3
         try clear c4
         try clear c5
         try clear c6
         try clear c10
         try clear c11
         try clear c13
         try clear c14
         try clear c15
         try clear c18
         try clear c20
         try clear c25
         try clear c26
         try clear c29
         try clear c30
         try clear c31
         try clear c34
         try clear c35
         try clear c38
         try clear c40
         try clear c41
         try clear c42
         try clear c45
         try clear c45b0
         try clear c46
         try clear c47
         try clear c50
         try clear c51
         try clear c52
         try clear c54
         try clear c57
         try clear c58
         try clear c60
         try clear bB
         try clear bC
         try clear bF
         try clear bG
         try clear bH
         try clear bI
         try clear bJ
         try clear bK
         try clear bL
         try clear bM
         try clear bN
         try clear bX
         try clear bY
         try clear bZ
         try clear b0
         try clear b1
         try clear b2
         try clear b3
         try clear b4
         try clear b5
         try clear cf
         try clear cg
         try clear cj
         try clear ck
         try clear cl
         try clear cm
         try clear cn
         try clear co
         try clear cp
         try clear cq
         try clear cr
         try clear cC
         try clear cD
         try clear cE
         try clear cF
         try clear cG
         try clear cH
         try clear cI
         try clear cJ
         try clear cK
         try clear cU
         try clear cV
         try clear cY
         try clear cZ
         try clear c8
         try clear c9
         try clear dc
         try clear dd
         try clear dg
         try clear dh
         try clear di
         try clear dj
         try clear dk
         try clear dl
         try clear dm
         try clear dn
         try clear dp
         try clear dA
         try clear dB
         try clear dE
         try clear dF
         try clear dG
         try clear dH
         try clear dI
         try clear dJ
         try clear dK
         try clear dL
         try clear dM
         try clear dW
         try clear dX
         try clear bD
         try clear bE
         try clear bO
         try clear bP
         try clear bQ
         try clear bR
         try clear bS
         try clear bT
         try clear bU
         try clear bV
         try clear bW
         try clear b6
         try clear b7
         try clear b8
         try clear b9
         try clear ca
         try clear cb
         try clear cc
         try clear cd
         try clear ce
         try clear ch
         try clear ci
         try clear ct
         try clear cu
         try clear cv
         try clear cw
         try clear cx
         try clear cy
         try clear cz
         try clear cA
         try clear cB
         try clear cL
         try clear cM
         try clear cN
         try clear cO
         try clear cP
         try clear cQ
         try clear cR
         try clear cS
         try clear cT
         try clear cW
         try clear cX
         try clear c0
         try clear c7
         try clear da
         try clear db
         try clear de
         try clear df
         try clear dq
         try clear dr
         try clear dt
         try clear du
         try clear dv
         try clear dw
         try clear dx
         try clear dy
         try clear dz
         try clear dC
         try clear dD
         try clear dN
         try clear dO
         try clear dP
         try clear dQ
         try clear dR
         try clear dS
         try clear dT
         try clear dU
         try clear dV
         try clear dY
         try clear dZ
         try clear p2
         obtain ⟨kq, bu, rfl, HA, HJ43, aa, ag, ae, HB⟩ := hcut
         cases kq with
         | zero => exact absurd HA.out (by simp [batonref20_Elect.j2])
         | succ kj43 =>
          have H := HA.out
          clear HA
          simp only [batonref20_Elect.j2] at H
          by_cases c64 : bu = true
          ·
           subst c64
           have H1 : (some (([] : List (S73)), ([] : List (S85)), 40)) = some (r1, r2, r3) := by rw [if_pos rfl] at H; exact H
           clear H
           have H := H1
           clear H1
           simp only [Option.some.injEq, Prod.mk.injEq] at H
           obtain ⟨rfl, rfl, rfl⟩ := H
           have eG := aK.out
           have eH := ap.out
           have eI := aB.out
           have eJ := aC.out
           have eK : wc.cell? ⟨af, 0, none⟩ = some (.slice none 0 0) := (blk_cell ag.out 0).trans rfl
           have eL : wc.cell? ⟨af, 1, none⟩ = some (.slice none 0 0) := (blk_cell ag.out 1).trans rfl
           have eM := blk_frozen ag.out 0
           have eN := blk_frozen ag.out 1
           go_wp2
           refine bodyPost_ret (results_ct rfl _ _ af 34 #[.slice none 0 0, .slice none 0 0] (0, 0) _ rfl (by (with_reducible repeat (first | refine blk_drewN ?_ _ | refine blk_drew ?_ | refine blk_alloc ?_ _)); refine blk_put (cs := #[.slice none 0 0, .slice none 0 0]) ?_ 1 _ rfl; (with_reducible repeat (first | refine blk_drewN ?_ _ | refine blk_drew ?_ | refine blk_alloc ?_ _)); refine blk_put (cs := #[.slice none 0 0, .slice none 0 0]) ?_ 0 _ rfl; (with_reducible repeat (first | refine blk_drewN ?_ _ | refine blk_drew ?_ | refine blk_alloc ?_ _)); exact ag.out) Try.underlying34 rfl (by kernel_rfl)) rfl ?_
           exact ⟨_, _, by first | rfl | (simp [errW_none, errW_some] <;> rfl) | (simp [*, errW_none, errW_some] <;> rfl), by first | exact Kd.R_nil _ _ _ _ _ | exact Kd.N_nil _ _ _ _ _ | exact Kd.V_nil _ _ _ _ _ | exact Kd.Q_nil _ _ _ _ _ | exact Kd.S_nil _ _ _ _ _, by first | exact Kd.R_nil _ _ _ _ _ | exact Kd.N_nil _ _ _ _ _ | exact Kd.V_nil _ _ _ _ _ | exact Kd.Q_nil _ _ _ _ _ | exact Kd.S_nil _ _ _ _ _, by repeat (first | (with_reducible first | exact HB.out | apply below_alloc | apply pw_below_drewN | apply below_drew1 | refine below_set ?_ aq.out | refine below_set ?_ av.out | refine below_set ?_ ay.out) | exact HB.out)⟩
          ·
           replace c64 := Bool.eq_false_iff.mpr c64
           subst c64
           have H1 : ((batonref20_Live.f ah ai aj ak al am ac ab an).bind fun bm => (if bm = true then ((batonref20_conds.f ah ai aj ak al am ac ab an a1 a2 true).bind fun aF => ((batonref20_puts.f a1 a2 a3 (wrap64 (ab + 1)) a4 false).bind fun aD => ((batonref20_putsTenant.f a1 ac (wrap64 (ab + 1))).bind fun az => (some (aF, (([(⟨aD.1, aD.2.1, aD.2.2⟩ : S85), (⟨az.1, az.2.1, az.2.2⟩ : S85)] : List (S85))), 0))))) else ((batonref20_conds.f ah ai aj ak al am ac ab an a1 a2 true).bind fun aG => ((batonref20_puts.f a1 a2 a3 (wrap64 (ab + 1)) a4 false).bind fun aE => ((batonref20_putsTenant.f a1 (wrap64 (ac + 1)) (wrap64 (ab + 1))).bind fun aA => (some (aG, (([(⟨aE.1, aE.2.1, aE.2.2⟩ : S85), (⟨aA.1, aA.2.1, aA.2.2⟩ : S85)] : List (S85))), 0))))))) = some (r1, r2, r3) := by rw [if_neg (show ¬ (false = true) by decide)] at H; exact H
           clear H
           have H := H1
           clear H1
           replace H := Option.bind_eq_some_iff.mp H
           obtain ⟨bm, A680, H⟩ := H
           replace H : (if bm = true then ((batonref20_conds.f ah ai aj ak al am ac ab an a1 a2 true).bind fun aF => ((batonref20_puts.f a1 a2 a3 (wrap64 (ab + 1)) a4 false).bind fun aD => ((batonref20_putsTenant.f a1 ac (wrap64 (ab + 1))).bind fun az => (some (aF, (([(⟨aD.1, aD.2.1, aD.2.2⟩ : S85), (⟨az.1, az.2.1, az.2.2⟩ : S85)] : List (S85))), 0))))) else ((batonref20_conds.f ah ai aj ak al am ac ab an a1 a2 true).bind fun aG => ((batonref20_puts.f a1 a2 a3 (wrap64 (ab + 1)) a4 false).bind fun aE => ((batonref20_putsTenant.f a1 (wrap64 (ac + 1)) (wrap64 (ab + 1))).bind fun aA => (some (aG, (([(⟨aE.1, aE.2.1, aE.2.2⟩ : S85), (⟨aA.1, aA.2.1, aA.2.2⟩ : S85)] : List (S85))), 0)))))) = some (r1, r2, r3) := H
           have A68 := Aside0.mk A680
           clear A680
           by_cases c69 : bm = true
           ·
            subst c69
            have H1 : ((batonref20_conds.f ah ai aj ak al am ac ab an a1 a2 true).bind fun aF => ((batonref20_puts.f a1 a2 a3 (wrap64 (ab + 1)) a4 false).bind fun aD => ((batonref20_putsTenant.f a1 ac (wrap64 (ab + 1))).bind fun az => (some (aF, (([(⟨aD.1, aD.2.1, aD.2.2⟩ : S85), (⟨az.1, az.2.1, az.2.2⟩ : S85)] : List (S85))), 0))))) = some (r1, r2, r3) := by rw [if_pos rfl] at H; exact H
            clear H
            have H := H1
            clear H1
            replace H := Option.bind_eq_some_iff.mp H
            obtain ⟨aF, A700, H⟩ := H
            replace H : ((batonref20_puts.f a1 a2 a3 (wrap64 (ab + 1)) a4 false).bind fun aD => ((batonref20_putsTenant.f a1 ac (wrap64 (ab + 1))).bind fun az => (some (aF, (([(⟨aD.1, aD.2.1, aD.2.2⟩ : S85), (⟨az.1, az.2.1, az.2.2⟩ : S85)] : List (S85))), 0)))) = some (r1, r2, r3) := H
            have A70 := Aside0.mk A700
            clear A700
            replace H := Option.bind_eq_some_iff.mp H
            obtain ⟨⟨aX, aY, aZ⟩, A710, H⟩ := H
            replace H : ((batonref20_putsTenant.f a1 ac (wrap64 (ab + 1))).bind fun az => (some (aF, (([(⟨aX, aY, aZ⟩ : S85), (⟨az.1, az.2.1, az.2.2⟩ : S85)] : List (S85))), 0))) = some (r1, r2, r3) := H
            have A71 := Aside0.mk A710
            clear A710
            replace H := Option.bind_eq_some_iff.mp H
            obtain ⟨⟨a9, ba, bb⟩, A720, H⟩ := H
            replace H : (some (aF, (([(⟨aX, aY, aZ⟩ : S85), (⟨a9, ba, bb⟩ : S85)] : List (S85))), 0)) = some (r1, r2, r3) := H
            have A72 := Aside0.mk A720
            clear A720
            obtain ⟨bv, hy147⟩ : ∃ y_ : List (S85), y_ = (([(⟨aX, aY, aZ⟩ : S85), (⟨a9, ba, bb⟩ : S85)] : List (S85))) := ⟨_, rfl⟩
            replace H : (some (aF, bv, 0)) = some (r1, r2, r3) := by first | (rw [hy147]; with_reducible exact H) | (have H2_ := (Option.bind_some _ _).symm.trans H; rw [hy147]; with_reducible exact H2_) | (have H2_ := (Option.bind_some _ _).symm.trans H; with_reducible exact H2_) | with_reducible exact H | (rw [hy147]; exact H) | exact H
            have Ny147 := Aside0.mk hy147
            clear hy147
            simp only [Option.some.injEq, Prod.mk.injEq] at H
            obtain ⟨rfl, rfl, rfl⟩ := H
            have eO := a8.out
            have eP := aH.out
            have eQ := aC.out
            have eR := aB.out
            have eS : wc.cell? ⟨ao, 0, none⟩ = some (.int .i64 ac) := (blk_cell ae.out 0).trans rfl
            have eT : wc.cell? ⟨ao, 1, none⟩ = some (.int .i64 ab) := (blk_cell ae.out 1).trans rfl
            have eU := blk_frozen ae.out 0
            have eV := blk_frozen ae.out 1
            have eW := ap.out
            have eX := aK.out
            have eY : wc.cell? ⟨ad, 0, none⟩ = some (.string ah) := (blk_cell aa.out 0).trans rfl
            have eZ : wc.cell? ⟨ad, 1, none⟩ = some (.int .i64 ai) := (blk_cell aa.out 1).trans rfl
            have e0 : wc.cell? ⟨ad, 2, none⟩ = some (.int .i64 aj) := (blk_cell aa.out 2).trans rfl
            have e1 : wc.cell? ⟨ad, 3, none⟩ = some (.bool ak) := (blk_cell aa.out 3).trans rfl
            have e2 : wc.cell? ⟨ad, 4, none⟩ = some (.bool al) := (blk_cell aa.out 4).trans rfl
            have e3 : wc.cell? ⟨ad, 5, none⟩ = some (.int .i64 am) := (blk_cell aa.out 5).trans rfl
            have e4 : wc.cell? ⟨ad, 6, none⟩ = some (.int .i64 ac) := (blk_cell aa.out 6).trans rfl
            have e5 : wc.cell? ⟨ad, 7, none⟩ = some (.int .i64 ab) := (blk_cell aa.out 7).trans rfl
            have e6 : wc.cell? ⟨ad, 8, none⟩ = some (.int .i64 an) := (blk_cell aa.out 8).trans rfl
            have e7 := blk_frozen aa.out 0
            have e8 := blk_frozen aa.out 1
            have e9 := blk_frozen aa.out 2
            have fa := blk_frozen aa.out 3
            have fb := blk_frozen aa.out 4
            have fc := blk_frozen aa.out 5
            have fd := blk_frozen aa.out 6
            have fe := blk_frozen aa.out 7
            have ff := blk_frozen aa.out 8
            try go_wp2_with (first | ((with_reducible refine gate_callee (f := 31) rfl ?_); refine goesL_ (some 65) rfl rfl Try.func31 (by kernel_rfl) rfl #[.agg #[.string ah, .int .i64 ai, .int .i64 aj, .bool ak, .bool al, .int .i64 am, .int .i64 ac, .int .i64 ab, .int .i64 an]] rfl (by (try simp only [List.map_toArray, List.map_cons, List.map_nil]); first | done | rfl | (simp only [List.length_drop, List.length_take]; rfl)) ?_; (with_reducible refine (batonref20_Live.calls ah ai aj ak al am ac ab an true _ A68.out).mono ?_); rintro e w78 ⟨rfl, hb⟩; refine ⟨_, rfl, ?_⟩; have n0_ := Aside0.mk (blk_below (g := ad) (o := .cells #[.string ah, .int .i64 ai, .int .i64 aj, .bool ak, .bool al, .int .i64 am, .int .i64 ac, .int .i64 ab, .int .i64 an] 27 (0, 0)) (by (with_reducible repeat (first | refine blk_drewN ?_ _ | refine blk_drew ?_ | refine blk_alloc ?_ _)); refine blk_far ?_ aH.out _; (with_reducible repeat (first | refine blk_drewN ?_ _ | refine blk_drew ?_ | refine blk_alloc ?_ _)); exact aa.out) hb); have n1_ := Aside0.mk (blk_below (g := af) (o := .cells #[.slice none 0 0, .slice none 0 0] 34 (0, 0)) (by (with_reducible repeat (first | refine blk_drewN ?_ _ | refine blk_drew ?_ | refine blk_alloc ?_ _)); refine blk_far ?_ aB.out _; (with_reducible repeat (first | refine blk_drewN ?_ _ | refine blk_drew ?_ | refine blk_alloc ?_ _)); exact ag.out) hb); have n2_ := Aside0.mk (blk_below (g := ao) (o := .cells #[.int .i64 ac, .int .i64 (wrap64 (ab + 1))] 25 (0, 0)) (by (with_reducible repeat (first | refine blk_drewN ?_ _ | refine blk_drew ?_ | refine blk_alloc ?_ _)); refine blk_put (cs := #[.int .i64 ac, .int .i64 ab]) ?_ 1 _ rfl; (with_reducible repeat (first | refine blk_drewN ?_ _ | refine blk_drew ?_ | refine blk_alloc ?_ _)); exact ae.out) hb); have n3_ := Aside0.mk (below_step (by repeat (first | (with_reducible first | exact HB.out | apply below_alloc | apply pw_below_drewN | apply below_drew1 | refine below_set ?_ aq.out | refine below_set ?_ av.out | refine below_set ?_ ay.out) | exact HB.out)) hb); clear aa; clear ag; clear ae; clear HB; have aa := n0_; have ag := n1_; have ae := n2_; have HB := n3_; clear n0_ n1_ n2_ n3_; (try clear hb); (try clear hb2); (try clear hk); (try clear hi); have fg : w78.cell? ⟨ao, 0, none⟩ = some (.int .i64 ac) := (blk_cell ae.out 0).trans rfl; have fh : w78.cell? ⟨ao, 1, none⟩ = some (.int .i64 (wrap64 (ab + 1))) := (blk_cell ae.out 1).trans rfl; have fi := blk_frozen ae.out 0; have fj := blk_frozen ae.out 1) | ((with_reducible refine gate_dst (N := 15) rfl ?_); refine box_event ?hg (N := 15) ?hd (cs := #[.string (⟨#[]⟩ : ByteArray), .int .i64 0, .int .i64 0, .bool false]) (t := 23) ?hr ?_; (case hd => rfl); (case hg => rfl); (case hr => first | (go_simp; done) | (go_simp; rfl)); intro aw hg w80 hbox hb; have n0_ := Aside0.mk (blk_below (g := ad) (o := .cells #[.string ah, .int .i64 ai, .int .i64 aj, .bool ak, .bool al, .int .i64 am, .int .i64 ac, .int .i64 ab, .int .i64 an] 27 (0, 0)) (by (with_reducible repeat (first | refine blk_drewN ?_ _ | refine blk_drew ?_ | refine blk_alloc ?_ _)); exact aa.out) hb); have n1_ := Aside0.mk (blk_below (g := af) (o := .cells #[.slice none 0 0, .slice none 0 0] 34 (0, 0)) (by (with_reducible repeat (first | refine blk_drewN ?_ _ | refine blk_drew ?_ | refine blk_alloc ?_ _)); exact ag.out) hb); have n2_ := Aside0.mk (blk_below (g := ao) (o := .cells #[.int .i64 ac, .int .i64 (wrap64 (ab + 1))] 25 (0, 0)) (by (with_reducible repeat (first | refine blk_drewN ?_ _ | refine blk_drew ?_ | refine blk_alloc ?_ _)); exact ae.out) hb); have n3_ := Aside0.mk (below_step (by repeat (first | (with_reducible first | exact HB.out | apply below_alloc | apply pw_below_drewN | apply below_drew1 | refine below_set ?_ aq.out | refine below_set ?_ av.out | refine below_set ?_ ay.out) | exact HB.out)) hb); have n4_ := Aside0.mk (hbox); have n5_ := Aside0.mk ((by rw [hg]; exact (below_size (by repeat (first | (with_reducible first | exact HB.out | apply below_alloc | apply pw_below_drewN | apply below_drew1 | refine below_set ?_ aq.out | refine below_set ?_ av.out | refine below_set ?_ ay.out) | exact HB.out))) : w.heap.size ≤ aw)); have n6_ := Aside0.mk ((by rw [hg]; exact (below_size (by repeat (first | (with_reducible first | exact HB.out | apply below_alloc | apply pw_below_drewN | apply below_drew1 | refine below_set ?_ aq.out | refine below_set ?_ av.out | refine below_set ?_ ay.out) | exact HB.out))) : w.heap.size ≤ aw)); have n7_ := Aside0.mk ((by rw [hg]; exact Nat.ne_of_lt (blk_lt (g := ad) (o := .cells #[.string ah, .int .i64 ai, .int .i64 aj, .bool ak, .bool al, .int .i64 am, .int .i64 ac, .int .i64 ab, .int .i64 an] 27 (0, 0)) (by (with_reducible repeat (first | refine blk_drewN ?_ _ | refine blk_drew ?_ | refine blk_alloc ?_ _)); exact aa.out)) : ad ≠ aw)); have n8_ := Aside0.mk ((by rw [hg]; exact Nat.ne_of_gt (blk_lt (g := ad) (o := .cells #[.string ah, .int .i64 ai, .int .i64 aj, .bool ak, .bool al, .int .i64 am, .int .i64 ac, .int .i64 ab, .int .i64 an] 27 (0, 0)) (by (with_reducible repeat (first | refine blk_drewN ?_ _ | refine blk_drew ?_ | refine blk_alloc ?_ _)); exact aa.out)) : aw ≠ ad)); have n9_ := Aside0.mk ((by rw [hg]; exact Nat.ne_of_lt (blk_lt (g := af) (o := .cells #[.slice none 0 0, .slice none 0 0] 34 (0, 0)) (by (with_reducible repeat (first | refine blk_drewN ?_ _ | refine blk_drew ?_ | refine blk_alloc ?_ _)); exact ag.out)) : af ≠ aw)); have n10_ := Aside0.mk ((by rw [hg]; exact Nat.ne_of_gt (blk_lt (g := af) (o := .cells #[.slice none 0 0, .slice none 0 0] 34 (0, 0)) (by (with_reducible repeat (first | refine blk_drewN ?_ _ | refine blk_drew ?_ | refine blk_alloc ?_ _)); exact ag.out)) : aw ≠ af)); have n11_ := Aside0.mk ((by rw [hg]; exact Nat.ne_of_lt (blk_lt (g := ao) (o := .cells #[.int .i64 ac, .int .i64 (wrap64 (ab + 1))] 25 (0, 0)) (by (with_reducible repeat (first | refine blk_drewN ?_ _ | refine blk_drew ?_ | refine blk_alloc ?_ _)); exact ae.out)) : ao ≠ aw)); have n12_ := Aside0.mk ((by rw [hg]; exact Nat.ne_of_gt (blk_lt (g := ao) (o := .cells #[.int .i64 ac, .int .i64 (wrap64 (ab + 1))] 25 (0, 0)) (by (with_reducible repeat (first | refine blk_drewN ?_ _ | refine blk_drew ?_ | refine blk_alloc ?_ _)); exact ae.out)) : aw ≠ ao)); clear aa; clear ag; clear ae; clear HB; have aa := n0_; have ag := n1_; have ae := n2_; have HB := n3_; have ar := n4_; have GW137 := n5_; have bc := n6_; have bo := n7_; have d0 := n8_; have bi := n9_; have aS := n10_; have bp := n11_; have d1 := n12_; clear n0_ n1_ n2_ n3_ n4_ n5_ n6_ n7_ n8_ n9_ n10_ n11_ n12_; clear hb hbox hg; have fk := d0.out; have fl := bo.out; have fm := aS.out; have fo := bi.out; have fp := d1.out; have fq := bp.out; have fr : w80.cell? ⟨aw, 0, none⟩ = some (.string (⟨#[]⟩ : ByteArray)) := (blk_cell ar.out 0).trans rfl; have fs : w80.cell? ⟨aw, 1, none⟩ = some (.int .i64 0) := (blk_cell ar.out 1).trans rfl; have ft : w80.cell? ⟨aw, 2, none⟩ = some (.int .i64 0) := (blk_cell ar.out 2).trans rfl; have fu : w80.cell? ⟨aw, 3, none⟩ = some (.bool false) := (blk_cell ar.out 3).trans rfl; have fv := blk_frozen ar.out 0; have fw := blk_frozen ar.out 1; have fx := blk_frozen ar.out 2; have fy := blk_frozen ar.out 3))
            have n0_ : Aside0 (((((w80.setCell ⟨aw, 0, none⟩ (.string a3)).setCell ⟨aw, 1, none⟩ (.int .i64 (wrap64 (ab + 1)))).setCell ⟨aw, 2, none⟩ (.int .i64 a4)).setCell ⟨aw, 3, none⟩ (.bool false)).heap[ad]? = some (.cells #[.string ah, .int .i64 ai, .int .i64 aj, .bool ak, .bool al, .int .i64 am, .int .i64 ac, .int .i64 ab, .int .i64 an] 27 (0, 0))) := ⟨by (with_reducible repeat (first | refine blk_drewN ?_ _ | refine blk_drew ?_ | refine blk_alloc ?_ _)); refine blk_far ?_ bo.out _; (with_reducible repeat (first | refine blk_drewN ?_ _ | refine blk_drew ?_ | refine blk_alloc ?_ _)); refine blk_far ?_ bo.out _; (with_reducible repeat (first | refine blk_drewN ?_ _ | refine blk_drew ?_ | refine blk_alloc ?_ _)); refine blk_far ?_ bo.out _; (with_reducible repeat (first | refine blk_drewN ?_ _ | refine blk_drew ?_ | refine blk_alloc ?_ _)); refine blk_far ?_ bo.out _; (with_reducible repeat (first | refine blk_drewN ?_ _ | refine blk_drew ?_ | refine blk_alloc ?_ _)); exact aa.out⟩
            have n1_ : Aside0 (((((w80.setCell ⟨aw, 0, none⟩ (.string a3)).setCell ⟨aw, 1, none⟩ (.int .i64 (wrap64 (ab + 1)))).setCell ⟨aw, 2, none⟩ (.int .i64 a4)).setCell ⟨aw, 3, none⟩ (.bool false)).heap[af]? = some (.cells #[.slice none 0 0, .slice none 0 0] 34 (0, 0))) := ⟨by (with_reducible repeat (first | refine blk_drewN ?_ _ | refine blk_drew ?_ | refine blk_alloc ?_ _)); refine blk_far ?_ bi.out _; (with_reducible repeat (first | refine blk_drewN ?_ _ | refine blk_drew ?_ | refine blk_alloc ?_ _)); refine blk_far ?_ bi.out _; (with_reducible repeat (first | refine blk_drewN ?_ _ | refine blk_drew ?_ | refine blk_alloc ?_ _)); refine blk_far ?_ bi.out _; (with_reducible repeat (first | refine blk_drewN ?_ _ | refine blk_drew ?_ | refine blk_alloc ?_ _)); refine blk_far ?_ bi.out _; (with_reducible repeat (first | refine blk_drewN ?_ _ | refine blk_drew ?_ | refine blk_alloc ?_ _)); exact ag.out⟩
            have n2_ : Aside0 (((((w80.setCell ⟨aw, 0, none⟩ (.string a3)).setCell ⟨aw, 1, none⟩ (.int .i64 (wrap64 (ab + 1)))).setCell ⟨aw, 2, none⟩ (.int .i64 a4)).setCell ⟨aw, 3, none⟩ (.bool false)).heap[ao]? = some (.cells #[.int .i64 ac, .int .i64 (wrap64 (ab + 1))] 25 (0, 0))) := ⟨by (with_reducible repeat (first | refine blk_drewN ?_ _ | refine blk_drew ?_ | refine blk_alloc ?_ _)); refine blk_far ?_ bp.out _; (with_reducible repeat (first | refine blk_drewN ?_ _ | refine blk_drew ?_ | refine blk_alloc ?_ _)); refine blk_far ?_ bp.out _; (with_reducible repeat (first | refine blk_drewN ?_ _ | refine blk_drew ?_ | refine blk_alloc ?_ _)); refine blk_far ?_ bp.out _; (with_reducible repeat (first | refine blk_drewN ?_ _ | refine blk_drew ?_ | refine blk_alloc ?_ _)); refine blk_far ?_ bp.out _; (with_reducible repeat (first | refine blk_drewN ?_ _ | refine blk_drew ?_ | refine blk_alloc ?_ _)); exact ae.out⟩
            have n3_ : Aside0 (((((w80.setCell ⟨aw, 0, none⟩ (.string a3)).setCell ⟨aw, 1, none⟩ (.int .i64 (wrap64 (ab + 1)))).setCell ⟨aw, 2, none⟩ (.int .i64 a4)).setCell ⟨aw, 3, none⟩ (.bool false)).heap[aw]? = some (.cells #[.string a3, .int .i64 (wrap64 (ab + 1)), .int .i64 a4, .bool false] 23 (0, 0))) := ⟨by (with_reducible repeat (first | refine blk_drewN ?_ _ | refine blk_drew ?_ | refine blk_alloc ?_ _)); refine blk_put (cs := #[.string a3, .int .i64 (wrap64 (ab + 1)), .int .i64 a4, .bool false]) ?_ 3 _ rfl; (with_reducible repeat (first | refine blk_drewN ?_ _ | refine blk_drew ?_ | refine blk_alloc ?_ _)); refine blk_put (cs := #[.string a3, .int .i64 (wrap64 (ab + 1)), .int .i64 0, .bool false]) ?_ 2 _ rfl; (with_reducible repeat (first | refine blk_drewN ?_ _ | refine blk_drew ?_ | refine blk_alloc ?_ _)); refine blk_put (cs := #[.string a3, .int .i64 0, .int .i64 0, .bool false]) ?_ 1 _ rfl; (with_reducible repeat (first | refine blk_drewN ?_ _ | refine blk_drew ?_ | refine blk_alloc ?_ _)); refine blk_put (cs := #[.string (⟨#[]⟩ : ByteArray), .int .i64 0, .int .i64 0, .bool false]) ?_ 0 _ rfl; (with_reducible repeat (first | refine blk_drewN ?_ _ | refine blk_drew ?_ | refine blk_alloc ?_ _)); exact ar.out⟩
            have n4_ : Aside0 (Below w.heap.size w ((((w80.setCell ⟨aw, 0, none⟩ (.string a3)).setCell ⟨aw, 1, none⟩ (.int .i64 (wrap64 (ab + 1)))).setCell ⟨aw, 2, none⟩ (.int .i64 a4)).setCell ⟨aw, 3, none⟩ (.bool false))) := ⟨by repeat (first | (with_reducible first | exact HB.out | apply below_alloc | apply pw_below_drewN | apply below_drew1 | refine below_set ?_ aq.out | refine below_set ?_ av.out | refine below_set ?_ ay.out | refine below_set ?_ bc.out) | exact HB.out)⟩
            (try clear aa)
            (try clear ag)
            (try clear ae)
            (try clear ar)
            (try clear HB)
            generalize ((((w80.setCell ⟨aw, 0, none⟩ (.string a3)).setCell ⟨aw, 1, none⟩ (.int .i64 (wrap64 (ab + 1)))).setCell ⟨aw, 2, none⟩ (.int .i64 a4)).setCell ⟨aw, 3, none⟩ (.bool false)) = w85 at n0_ n1_ n2_ n3_ n4_ ⊢
            have aa := n0_
            have ag := n1_
            have ae := n2_
            have ar := n3_
            have HB := n4_
            clear n0_ n1_ n2_ n3_ n4_
            have n0_ := Aside0.mk (blk_drew aa.out)
            have n1_ := Aside0.mk (blk_drew ag.out)
            have n2_ := Aside0.mk (blk_drew ae.out)
            have n3_ := Aside0.mk (blk_drew ar.out)
            have n4_ := Aside0.mk (below_drew1 HB.out)
            clear aa
            clear ag
            clear ae
            clear ar
            clear HB
            have aa := n0_
            have ag := n1_
            have ae := n2_
            have ar := n3_
            have HB := n4_
            clear n0_ n1_ n2_ n3_ n4_
            refine start_ (n := 15) (S := fun w' => w'.cell? ⟨ad, 0, none⟩ = some (.string ah) ∧ w'.cell? ⟨ad, 1, none⟩ = some (.int .i64 ai) ∧ w'.cell? ⟨ad, 2, none⟩ = some (.int .i64 aj) ∧ w'.cell? ⟨ad, 3, none⟩ = some (.bool ak) ∧ w'.cell? ⟨ad, 4, none⟩ = some (.bool al) ∧ w'.cell? ⟨ad, 5, none⟩ = some (.int .i64 am) ∧ w'.cell? ⟨ad, 6, none⟩ = some (.int .i64 ac) ∧ w'.cell? ⟨ad, 7, none⟩ = some (.int .i64 ab) ∧ w'.cell? ⟨ad, 8, none⟩ = some (.int .i64 an) ∧ w'.cell? ⟨aw, 0, none⟩ = some (.string a3) ∧ w'.cell? ⟨aw, 1, none⟩ = some (.int .i64 (wrap64 (ab + 1))) ∧ w'.cell? ⟨aw, 2, none⟩ = some (.int .i64 a4) ∧ w'.cell? ⟨aw, 3, none⟩ = some (.bool false) ∧ w'.cell? ⟨ao, 0, none⟩ = some (.int .i64 ac) ∧ w'.cell? ⟨ao, 1, none⟩ = some (.int .i64 (wrap64 (ab + 1)))) (ds := []) #[false, false, false, false, false, false, false, false, false, false, false, false, false, false, false] (by kernel_rfl) rfl rfl ⟨(blk_cell aa.out 0).trans rfl, (blk_cell aa.out 1).trans rfl, (blk_cell aa.out 2).trans rfl, (blk_cell aa.out 3).trans rfl, (blk_cell aa.out 4).trans rfl, (blk_cell aa.out 5).trans rfl, (blk_cell aa.out 6).trans rfl, (blk_cell aa.out 7).trans rfl, (blk_cell aa.out 8).trans rfl, (blk_cell ar.out 0).trans rfl, (blk_cell ar.out 1).trans rfl, (blk_cell ar.out 2).trans rfl, (blk_cell ar.out 3).trans rfl, (blk_cell ae.out 0).trans rfl, (blk_cell ae.out 1).trans rfl⟩ (fun hHeld => ?_); refine with_tabW batonref20_Elect.tab14 batonref20_Elect.bits14 (fun HT_ HW_ => ?_)
            generalize w85.drew = w86 at aa ag ae ar HB hHeld ⊢
            refine pure_ (i := 1) (N := some 77) (v := ?_) (a' := ?_) #[false, true, false, false, false, false, false, false, false, false, false, false, false, false, false] rfl rfl (any_of HT_.out (by kernel_rfl)) (fun _ _ _ h => h) (Or.inl ⟨by rfl, ?_⟩) ?_ ?_
            rotate_left
            ·
             intro w'
             go_simp
             with_reducible rfl
            rotate_left
            ·
             simp only [Act.put, List.setIfInBounds_toArray, List.set_cons_zero, List.set_cons_succ, i64_w, i32_w]
             rfl
            refine pure_ (i := 2) (N := some 78) (v := ?_) (a' := ?_) #[false, true, true, false, false, false, false, false, false, false, false, false, false, false, false] rfl rfl (any_of HT_.out (by kernel_rfl)) (fun _ _ _ h => h) (Or.inl ⟨by rfl, ?_⟩) ?_ ?_
            rotate_left
            ·
             intro w'
             go_simp
             with_reducible rfl
            rotate_left
            ·
             simp only [Act.put, List.setIfInBounds_toArray, List.set_cons_zero, List.set_cons_succ, i64_w, i32_w]
             rfl
            refine pure_ (i := 4) (N := some 80) (v := ?_) (a' := ?_) #[false, true, true, false, true, false, false, false, false, false, false, false, false, false, false] rfl rfl (any_of HT_.out (by kernel_rfl)) (fun _ _ _ h => h) (Or.inl ⟨by rfl, ?_⟩) ?_ ?_
            rotate_left
            ·
             intro w'
             go_simp
             with_reducible rfl
            rotate_left
            ·
             simp only [Act.put, List.setIfInBounds_toArray, List.set_cons_zero, List.set_cons_succ, i64_w, i32_w]
             rfl
            refine pure_ (i := 5) (N := some 81) (v := ?_) (a' := ?_) #[false, true, true, false, true, true, false, false, false, false, false, false, false, false, false] rfl rfl (any_of HT_.out (by kernel_rfl)) (fun _ _ _ h => h) (Or.inl ⟨by rfl, ?_⟩) ?_ ?_
            rotate_left
            ·
             intro w'
             go_simp
             with_reducible rfl
            rotate_left
            ·
             simp only [Act.put, List.setIfInBounds_toArray, List.set_cons_zero, List.set_cons_succ, i64_w, i32_w]
             rfl
            refine pure_ (i := 8) (N := some 84) (v := ?_) (a' := ?_) #[false, true, true, false, true, true, false, false, true, false, false, false, false, false, false] rfl rfl (any_of HT_.out (by kernel_rfl)) (fun _ _ _ h => h) (Or.inl ⟨by rfl, ?_⟩) ?_ ?_
            rotate_left
            ·
             intro w'
             go_simp
             with_reducible rfl
            rotate_left
            ·
             simp only [Act.put, List.setIfInBounds_toArray, List.set_cons_zero, List.set_cons_succ, i64_w, i32_w]
             rfl
            refine take_ (i := 0) (N := some 76) (v := ?_) (a' := ?_) #[true, true, true, false, true, true, false, false, true, false, false, false, false, false, false] rfl rfl (take_ofW HT_.out HW_.out (by kernel_rfl)) (fun _ _ _ h => h) (Or.inl ⟨by rfl, ?_⟩) hHeld ?_ ?_
            rotate_left
            ·
             rintro w' ⟨s0, s1, s2, s3, s4, s5, s6, s7, s8, s9, s10, s11, s12, s13, s14⟩
             go_simp
             with_reducible rfl
            rotate_left
            ·
             simp only [Act.put, List.setIfInBounds_toArray, List.set_cons_zero, List.set_cons_succ, i64_w, i32_w]
             rfl
            refine take_ (i := 6) (N := some 82) (v := ?_) (a' := ?_) #[true, true, true, false, true, true, true, false, true, false, false, false, false, false, false] rfl rfl (take_ofW HT_.out HW_.out (by kernel_rfl)) (fun _ _ _ h => h) (Or.inl ⟨by rfl, ?_⟩) hHeld ?_ ?_
            rotate_left
            ·
             rintro w' ⟨s0, s1, s2, s3, s4, s5, s6, s7, s8, s9, s10, s11, s12, s13, s14⟩
             go_simp
             with_reducible rfl
            rotate_left
            ·
             simp only [Act.put, List.setIfInBounds_toArray, List.set_cons_zero, List.set_cons_succ, i64_w, i32_w]
             rfl
            refine take_ (i := 9) (N := some 85) (v := ?_) (a' := ?_) #[true, true, true, false, true, true, true, false, true, true, false, false, false, false, false] rfl rfl (take_ofW HT_.out HW_.out (by kernel_rfl)) (fun _ _ _ h => h) (Or.inl ⟨by rfl, ?_⟩) hHeld ?_ ?_
            rotate_left
            ·
             rintro w' ⟨s0, s1, s2, s3, s4, s5, s6, s7, s8, s9, s10, s11, s12, s13, s14⟩
             go_simp
             with_reducible rfl
            rotate_left
            ·
             simp only [Act.put, List.setIfInBounds_toArray, List.set_cons_zero, List.set_cons_succ, i64_w, i32_w]
             rfl
            refine one_ (i := 3) (N := some 79) #[true, true, true, true, true, true, true, false, true, true, false, false, false, false, false] rfl rfl (one_of HT_.out (by kernel_rfl)) (by decide) (fun K hK => ?_)
            refine goes_ Try.func110 (by kernel_rfl) rfl #[.agg #[.string ah, .int .i64 ai, .int .i64 aj, .bool ak, .bool al, .int .i64 am, .int .i64 ac, .int .i64 ab, .int .i64 an], .string a1, .string a2, .bool true] (by rfl) rfl rfl (by (try simp only [List.map_toArray, List.map_cons, List.map_nil]); first | done | rfl | (simp only [List.length_drop, List.length_take]; rfl)) ?_
            with_reducible refine (batonref20_conds.calls ah ai aj ak al am ac ab an a1 a2 true aF _ A70.out).mono ?_
            rintro e w87 ⟨v139, rfl, ho0, hb⟩
            refine ⟨_, rfl, ?_⟩
            have n0_ := Aside0.mk (Kd.R_lower ho0 (below_size (by repeat (first | (with_reducible first | exact HB.out | apply below_alloc | apply pw_below_drewN | apply below_drew1 | refine below_set ?_ aq.out | refine below_set ?_ av.out | refine below_set ?_ ay.out | refine below_set ?_ bc.out) | exact HB.out))))
            have n1_ := Aside0.mk (blk_below (g := ad) (o := .cells #[.string ah, .int .i64 ai, .int .i64 aj, .bool ak, .bool al, .int .i64 am, .int .i64 ac, .int .i64 ab, .int .i64 an] 27 (0, 0)) (by (with_reducible repeat (first | refine blk_drewN ?_ _ | refine blk_drew ?_ | refine blk_alloc ?_ _)); exact aa.out) hb)
            have n2_ := Aside0.mk (blk_below (g := af) (o := .cells #[.slice none 0 0, .slice none 0 0] 34 (0, 0)) (by (with_reducible repeat (first | refine blk_drewN ?_ _ | refine blk_drew ?_ | refine blk_alloc ?_ _)); exact ag.out) hb)
            have n3_ := Aside0.mk (blk_below (g := ao) (o := .cells #[.int .i64 ac, .int .i64 (wrap64 (ab + 1))] 25 (0, 0)) (by (with_reducible repeat (first | refine blk_drewN ?_ _ | refine blk_drew ?_ | refine blk_alloc ?_ _)); exact ae.out) hb)
            have n4_ := Aside0.mk (blk_below (g := aw) (o := .cells #[.string a3, .int .i64 (wrap64 (ab + 1)), .int .i64 a4, .bool false] 23 (0, 0)) (by (with_reducible repeat (first | refine blk_drewN ?_ _ | refine blk_drew ?_ | refine blk_alloc ?_ _)); exact ar.out) hb)
            have n5_ := Aside0.mk (below_step (by repeat (first | (with_reducible first | exact HB.out | apply below_alloc | apply pw_below_drewN | apply below_drew1 | refine below_set ?_ aq.out | refine below_set ?_ av.out | refine below_set ?_ ay.out | refine below_set ?_ bc.out) | exact HB.out)) hb)
            clear aa
            clear ag
            clear ae
            clear ar
            clear HB
            have HO140 := n0_
            have aa := n1_
            have ag := n2_
            have ae := n3_
            have ar := n4_
            have HB := n5_
            clear n0_ n1_ n2_ n3_ n4_ n5_
            (try clear hb)
            (try clear hb2)
            (try clear hk)
            (try clear hi)
            (try clear ho0)
            refine hK.out _ _ ⟨(blk_cell aa.out 0).trans rfl, (blk_cell aa.out 1).trans rfl, (blk_cell aa.out 2).trans rfl, (blk_cell aa.out 3).trans rfl, (blk_cell aa.out 4).trans rfl, (blk_cell aa.out 5).trans rfl, (blk_cell aa.out 6).trans rfl, (blk_cell aa.out 7).trans rfl, (blk_cell aa.out 8).trans rfl, (blk_cell ar.out 0).trans rfl, (blk_cell ar.out 1).trans rfl, (blk_cell ar.out 2).trans rfl, (blk_cell ar.out 3).trans rfl, (blk_cell ae.out 0).trans rfl, (blk_cell ae.out 1).trans rfl⟩ (fun hHeld => ?_)
            clear hK K
            refine norm_ (a' := ?_) ?_ ?_
            rotate_left
            ·
             show Act.put _ (some 79) _ = _
             simp only [Act.put, List.setIfInBounds_toArray, List.set_cons_zero, List.set_cons_succ, i64_w, i32_w]
             rfl
            refine one_ (i := 7) (N := some 83) #[true, true, true, true, true, true, true, true, true, true, false, false, false, false, false] rfl rfl (one_of HT_.out (by kernel_rfl)) (by decide) (fun K hK => ?_)
            refine goes_ Try.func111 (by kernel_rfl) rfl #[.string a1, .string a2, .agg #[.string a3, .int .i64 (wrap64 (ab + 1)), .int .i64 a4, .bool false]] (by rfl) rfl rfl (by (try simp only [List.map_toArray, List.map_cons, List.map_nil]); first | done | rfl | (simp only [List.length_drop, List.length_take]; rfl)) ?_
            with_reducible refine (batonref20_puts.calls a1 a2 a3 (wrap64 (ab + 1)) a4 false aX aY aZ _ A71.out).mono ?_
            rintro e w88 ⟨rfl, hb⟩
            refine ⟨_, rfl, ?_⟩
            have n0_ := Aside0.mk (Kd.R_below (by (with_reducible repeat (first | apply Kd.R_alloc | apply Kd.R_drewN | apply Kd.R_drew)); exact HO140.out) hb)
            have n1_ := Aside0.mk (blk_below (g := ad) (o := .cells #[.string ah, .int .i64 ai, .int .i64 aj, .bool ak, .bool al, .int .i64 am, .int .i64 ac, .int .i64 ab, .int .i64 an] 27 (0, 0)) (by (with_reducible repeat (first | refine blk_drewN ?_ _ | refine blk_drew ?_ | refine blk_alloc ?_ _)); exact aa.out) hb)
            have n2_ := Aside0.mk (blk_below (g := af) (o := .cells #[.slice none 0 0, .slice none 0 0] 34 (0, 0)) (by (with_reducible repeat (first | refine blk_drewN ?_ _ | refine blk_drew ?_ | refine blk_alloc ?_ _)); exact ag.out) hb)
            have n3_ := Aside0.mk (blk_below (g := ao) (o := .cells #[.int .i64 ac, .int .i64 (wrap64 (ab + 1))] 25 (0, 0)) (by (with_reducible repeat (first | refine blk_drewN ?_ _ | refine blk_drew ?_ | refine blk_alloc ?_ _)); exact ae.out) hb)
            have n4_ := Aside0.mk (blk_below (g := aw) (o := .cells #[.string a3, .int .i64 (wrap64 (ab + 1)), .int .i64 a4, .bool false] 23 (0, 0)) (by (with_reducible repeat (first | refine blk_drewN ?_ _ | refine blk_drew ?_ | refine blk_alloc ?_ _)); exact ar.out) hb)
            have n5_ := Aside0.mk (below_step (by repeat (first | (with_reducible first | exact HB.out | apply below_alloc | apply pw_below_drewN | apply below_drew1 | refine below_set ?_ aq.out | refine below_set ?_ av.out | refine below_set ?_ ay.out | refine below_set ?_ bc.out) | exact HB.out)) hb)
            clear HO140
            clear aa
            clear ag
            clear ae
            clear ar
            clear HB
            have HO140 := n0_
            have aa := n1_
            have ag := n2_
            have ae := n3_
            have ar := n4_
            have HB := n5_
            clear n0_ n1_ n2_ n3_ n4_ n5_
            (try clear hb)
            (try clear hb2)
            (try clear hk)
            (try clear hi)
            refine hK.out _ _ ⟨(blk_cell aa.out 0).trans rfl, (blk_cell aa.out 1).trans rfl, (blk_cell aa.out 2).trans rfl, (blk_cell aa.out 3).trans rfl, (blk_cell aa.out 4).trans rfl, (blk_cell aa.out 5).trans rfl, (blk_cell aa.out 6).trans rfl, (blk_cell aa.out 7).trans rfl, (blk_cell aa.out 8).trans rfl, (blk_cell ar.out 0).trans rfl, (blk_cell ar.out 1).trans rfl, (blk_cell ar.out 2).trans rfl, (blk_cell ar.out 3).trans rfl, (blk_cell ae.out 0).trans rfl, (blk_cell ae.out 1).trans rfl⟩ (fun hHeld => ?_)
            clear hK K
            refine norm_ (a' := ?_) ?_ ?_
            rotate_left
            ·
             show Act.put _ (some 83) _ = _
             simp only [Act.put, List.setIfInBounds_toArray, List.set_cons_zero, List.set_cons_succ, i64_w, i32_w]
             rfl
            refine one_ (i := 10) (N := some 86) #[true, true, true, true, true, true, true, true, true, true, true, false, false, false, false] rfl rfl (one_of HT_.out (by kernel_rfl)) (by decide) (fun K hK => ?_)
            refine goes_ Try.func112 (by kernel_rfl) rfl #[.string a1, .agg #[.int .i64 ac, .int .i64 (wrap64 (ab + 1))]] (by rfl) rfl rfl (by (try simp only [List.map_toArray, List.map_cons, List.map_nil]); first | done | rfl | (simp only [List.length_drop, List.length_take]; rfl)) ?_
            with_reducible refine (batonref20_putsTenant.calls a1 ac (wrap64 (ab + 1)) a9 ba bb _ A72.out).mono ?_
            rintro e w89 ⟨rfl, hb⟩
            refine ⟨_, rfl, ?_⟩
            have n0_ := Aside0.mk (Kd.R_below (by (with_reducible repeat (first | apply Kd.R_alloc | apply Kd.R_drewN | apply Kd.R_drew)); exact HO140.out) hb)
            have n1_ := Aside0.mk (blk_below (g := ad) (o := .cells #[.string ah, .int .i64 ai, .int .i64 aj, .bool ak, .bool al, .int .i64 am, .int .i64 ac, .int .i64 ab, .int .i64 an] 27 (0, 0)) (by (with_reducible repeat (first | refine blk_drewN ?_ _ | refine blk_drew ?_ | refine blk_alloc ?_ _)); exact aa.out) hb)
            have n2_ := Aside0.mk (blk_below (g := af) (o := .cells #[.slice none 0 0, .slice none 0 0] 34 (0, 0)) (by (with_reducible repeat (first | refine blk_drewN ?_ _ | refine blk_drew ?_ | refine blk_alloc ?_ _)); exact ag.out) hb)
            have n3_ := Aside0.mk (blk_below (g := ao) (o := .cells #[.int .i64 ac, .int .i64 (wrap64 (ab + 1))] 25 (0, 0)) (by (with_reducible repeat (first | refine blk_drewN ?_ _ | refine blk_drew ?_ | refine blk_alloc ?_ _)); exact ae.out) hb)
            have n4_ := Aside0.mk (blk_below (g := aw) (o := .cells #[.string a3, .int .i64 (wrap64 (ab + 1)), .int .i64 a4, .bool false] 23 (0, 0)) (by (with_reducible repeat (first | refine blk_drewN ?_ _ | refine blk_drew ?_ | refine blk_alloc ?_ _)); exact ar.out) hb)
            have n5_ := Aside0.mk (below_step (by repeat (first | (with_reducible first | exact HB.out | apply below_alloc | apply pw_below_drewN | apply below_drew1 | refine below_set ?_ aq.out | refine below_set ?_ av.out | refine below_set ?_ ay.out | refine below_set ?_ bc.out) | exact HB.out)) hb)
            clear HO140
            clear aa
            clear ag
            clear ae
            clear ar
            clear HB
            have HO140 := n0_
            have aa := n1_
            have ag := n2_
            have ae := n3_
            have ar := n4_
            have HB := n5_
            clear n0_ n1_ n2_ n3_ n4_ n5_
            (try clear hb)
            (try clear hb2)
            (try clear hk)
            (try clear hi)
            refine hK.out _ _ ⟨(blk_cell aa.out 0).trans rfl, (blk_cell aa.out 1).trans rfl, (blk_cell aa.out 2).trans rfl, (blk_cell aa.out 3).trans rfl, (blk_cell aa.out 4).trans rfl, (blk_cell aa.out 5).trans rfl, (blk_cell aa.out 6).trans rfl, (blk_cell aa.out 7).trans rfl, (blk_cell aa.out 8).trans rfl, (blk_cell ar.out 0).trans rfl, (blk_cell ar.out 1).trans rfl, (blk_cell ar.out 2).trans rfl, (blk_cell ar.out 3).trans rfl, (blk_cell ae.out 0).trans rfl, (blk_cell ae.out 1).trans rfl⟩ (fun hHeld => ?_)
            clear hK K
            refine norm_ (a' := ?_) ?_ ?_
            rotate_left
            ·
             show Act.put _ (some 86) _ = _
             simp only [Act.put, List.setIfInBounds_toArray, List.set_cons_zero, List.set_cons_succ, i64_w, i32_w]
             rfl
            refine one_ (i := 11) (N := some 87) #[true, true, true, true, true, true, true, true, true, true, true, true, false, false, false] rfl rfl (one_of HT_.out (by kernel_rfl)) (by decide) (fun K hK => ?_)
            refine Kd.R_lit_step k85 _ 85 ?hg (N := 87) ?hd (xs := ([(⟨aX, aY, aZ⟩ : S85), (⟨a9, ba, bb⟩ : S85)] : List (S85))) (inner := [.bool aX, .string aY, .string aZ, .bool a9, .string ba, .string bb]) (ok := fun _ => True) (okp := fun _ => True) ?hr ?hp (fun _ hk => hk) trivial (Below.refl _ _) (Nat.le_refl _) (by simp) ?_; (case hd => rfl); (case hg => rfl); (case hr => first | (go_simp; done) | (go_simp; rfl)); (case hp => exact (Reps.c3 (show Kd.M k85 _ _ _ (⟨aX, aY, aZ⟩ : S85) [.bool aX, .string aY, .string aZ] from (k85_mkM _ _ _ (⟨aX, aY, aZ⟩ : S85) )) (Reps.c3 (show Kd.M k85 _ _ _ (⟨a9, ba, bb⟩ : S85) [.bool a9, .string ba, .string bb] from (k85_mkM _ _ _ (⟨a9, ba, bb⟩ : S85) )) (Reps.none _ _))))
            intro v148 w90 ho91 hb hg_ hnew_
            clear hg_ hnew_
            (first | rw [← Ny147.out] at ho91 | (simp only [Int.reduceToNat] at ho91; rw [← Ny147.out] at ho91))
            have n0_ := Aside0.mk (Kd.R_below (by (with_reducible repeat (first | apply Kd.R_alloc | apply Kd.R_drewN | apply Kd.R_drew)); exact HO140.out) hb)
            have n1_ := Aside0.mk (Kd.R_lower ho91 (below_size (by repeat (first | (with_reducible first | exact HB.out | apply below_alloc | apply pw_below_drewN | apply below_drew1 | refine below_set ?_ aq.out | refine below_set ?_ av.out | refine below_set ?_ ay.out | refine below_set ?_ bc.out) | exact HB.out))))
            have n2_ := Aside0.mk (blk_below (g := ad) (o := .cells #[.string ah, .int .i64 ai, .int .i64 aj, .bool ak, .bool al, .int .i64 am, .int .i64 ac, .int .i64 ab, .int .i64 an] 27 (0, 0)) (by (with_reducible repeat (first | refine blk_drewN ?_ _ | refine blk_drew ?_ | refine blk_alloc ?_ _)); exact aa.out) hb)
            have n3_ := Aside0.mk (blk_below (g := af) (o := .cells #[.slice none 0 0, .slice none 0 0] 34 (0, 0)) (by (with_reducible repeat (first | refine blk_drewN ?_ _ | refine blk_drew ?_ | refine blk_alloc ?_ _)); exact ag.out) hb)
            have n4_ := Aside0.mk (blk_below (g := ao) (o := .cells #[.int .i64 ac, .int .i64 (wrap64 (ab + 1))] 25 (0, 0)) (by (with_reducible repeat (first | refine blk_drewN ?_ _ | refine blk_drew ?_ | refine blk_alloc ?_ _)); exact ae.out) hb)
            have n5_ := Aside0.mk (blk_below (g := aw) (o := .cells #[.string a3, .int .i64 (wrap64 (ab + 1)), .int .i64 a4, .bool false] 23 (0, 0)) (by (with_reducible repeat (first | refine blk_drewN ?_ _ | refine blk_drew ?_ | refine blk_alloc ?_ _)); exact ar.out) hb)
            have n6_ := Aside0.mk (below_step (by repeat (first | (with_reducible first | exact HB.out | apply below_alloc | apply pw_below_drewN | apply below_drew1 | refine below_set ?_ aq.out | refine below_set ?_ av.out | refine below_set ?_ ay.out | refine below_set ?_ bc.out) | exact HB.out)) hb)
            clear HO140
            clear aa
            clear ag
            clear ae
            clear ar
            clear HB
            have HO140 := n0_
            have HO149 := n1_
            have aa := n2_
            have ag := n3_
            have ae := n4_
            have ar := n5_
            have HB := n6_
            clear n0_ n1_ n2_ n3_ n4_ n5_ n6_
            clear hb ho91
            obtain ⟨Ao92, co92, eo92⟩ := Kd.R_slice HO149.out
            (first | subst eo92 | (injection eo92 with f1_ f2_ f3_; have f4_ := f1_.symm; have f5_ := f3_.symm; clear f1_ f2_ f3_; subst f4_; subst f5_))
            obtain ⟨Ao93, co93, eo93⟩ := Kd.R_slice HO140.out
            (first | subst eo93 | (injection eo93 with f1_ f2_ f3_; have f4_ := f1_.symm; have f5_ := f3_.symm; clear f1_ f2_ f3_; subst f4_; subst f5_))
            refine hK.out _ _ ⟨(blk_cell aa.out 0).trans rfl, (blk_cell aa.out 1).trans rfl, (blk_cell aa.out 2).trans rfl, (blk_cell aa.out 3).trans rfl, (blk_cell aa.out 4).trans rfl, (blk_cell aa.out 5).trans rfl, (blk_cell aa.out 6).trans rfl, (blk_cell aa.out 7).trans rfl, (blk_cell aa.out 8).trans rfl, (blk_cell ar.out 0).trans rfl, (blk_cell ar.out 1).trans rfl, (blk_cell ar.out 2).trans rfl, (blk_cell ar.out 3).trans rfl, (blk_cell ae.out 0).trans rfl, (blk_cell ae.out 1).trans rfl⟩ (fun hHeld => ?_)
            clear hK K
            refine norm_ (a' := ?_) ?_ ?_
            rotate_left
            ·
             show Act.put _ (some 87) _ = _
             simp only [Act.put, List.setIfInBounds_toArray, List.set_cons_zero, List.set_cons_succ, i64_w, i32_w]
             rfl
            refine pure_ (i := 12) (N := some 88) (v := ?_) (a' := ?_) #[true, true, true, true, true, true, true, true, true, true, true, true, true, false, false] rfl rfl (any_of HT_.out (by kernel_rfl)) (fun _ _ _ h => h) (Or.inl ⟨by rfl, ?_⟩) ?_ ?_
            rotate_left
            ·
             intro w'
             go_simp
             with_reducible rfl
            rotate_left
            ·
             simp only [Act.put, List.setIfInBounds_toArray, List.set_cons_zero, List.set_cons_succ, i64_w, i32_w]
             rfl
            refine one_ (i := 13) (N := none) #[true, true, true, true, true, true, true, true, true, true, true, true, true, true, false] rfl rfl (one_of HT_.out (by kernel_rfl)) (by decide) (fun K hK => ?_)
            have hs94 : w90.cell? ⟨af, 0, none⟩ = some (.slice none 0 0) := (blk_cell ag.out 0).trans rfl
            have hfs94 := blk_frozen ag.out 0
            have hns94_0 := ap.out
            have hns94_2 := aC.out
            have hns94_3 := aS.out
            have hms94_0 := aK.out
            have hms94_2 := aB.out
            have hms94_3 := bi.out
            have hs95 : w90.cell? ⟨af, 1, none⟩ = some (.slice none 0 0) := (blk_cell ag.out 1).trans rfl
            have hfs95 := blk_frozen ag.out 1
            have hns95_0 := ap.out
            have hns95_2 := aC.out
            have hns95_3 := aS.out
            have hms95_0 := aK.out
            have hms95_2 := aB.out
            have hms95_3 := bi.out
            refine skip_ (w1 := ?_) (by rfl) rfl ?_ ?_
            rotate_left
            ·
             go_simp
             rfl
            refine hK.out _ _ ⟨((cell_far (p := ⟨af, _, none⟩) ap.out _).trans (((cell_far (p := ⟨af, _, none⟩) ap.out _).trans (hHeld.1)))), ((cell_far (p := ⟨af, _, none⟩) ap.out _).trans (((cell_far (p := ⟨af, _, none⟩) ap.out _).trans (hHeld.2.1)))), ((cell_far (p := ⟨af, _, none⟩) ap.out _).trans (((cell_far (p := ⟨af, _, none⟩) ap.out _).trans (hHeld.2.2.1)))), ((cell_far (p := ⟨af, _, none⟩) ap.out _).trans (((cell_far (p := ⟨af, _, none⟩) ap.out _).trans (hHeld.2.2.2.1)))), ((cell_far (p := ⟨af, _, none⟩) ap.out _).trans (((cell_far (p := ⟨af, _, none⟩) ap.out _).trans (hHeld.2.2.2.2.1)))), ((cell_far (p := ⟨af, _, none⟩) ap.out _).trans (((cell_far (p := ⟨af, _, none⟩) ap.out _).trans (hHeld.2.2.2.2.2.1)))), ((cell_far (p := ⟨af, _, none⟩) ap.out _).trans (((cell_far (p := ⟨af, _, none⟩) ap.out _).trans (hHeld.2.2.2.2.2.2.1)))), ((cell_far (p := ⟨af, _, none⟩) ap.out _).trans (((cell_far (p := ⟨af, _, none⟩) ap.out _).trans (hHeld.2.2.2.2.2.2.2.1)))), ((cell_far (p := ⟨af, _, none⟩) ap.out _).trans (((cell_far (p := ⟨af, _, none⟩) ap.out _).trans (hHeld.2.2.2.2.2.2.2.2.1)))), ((cell_far (p := ⟨af, _, none⟩) aS.out _).trans (((cell_far (p := ⟨af, _, none⟩) aS.out _).trans (hHeld.2.2.2.2.2.2.2.2.2.1)))), ((cell_far (p := ⟨af, _, none⟩) aS.out _).trans (((cell_far (p := ⟨af, _, none⟩) aS.out _).trans (hHeld.2.2.2.2.2.2.2.2.2.2.1)))), ((cell_far (p := ⟨af, _, none⟩) aS.out _).trans (((cell_far (p := ⟨af, _, none⟩) aS.out _).trans (hHeld.2.2.2.2.2.2.2.2.2.2.2.1)))), ((cell_far (p := ⟨af, _, none⟩) aS.out _).trans (((cell_far (p := ⟨af, _, none⟩) aS.out _).trans (hHeld.2.2.2.2.2.2.2.2.2.2.2.2.1)))), ((cell_far (p := ⟨af, _, none⟩) aC.out _).trans (((cell_far (p := ⟨af, _, none⟩) aC.out _).trans (hHeld.2.2.2.2.2.2.2.2.2.2.2.2.2.1)))), ((cell_far (p := ⟨af, _, none⟩) aC.out _).trans (((cell_far (p := ⟨af, _, none⟩) aC.out _).trans (hHeld.2.2.2.2.2.2.2.2.2.2.2.2.2.2))))⟩ (fun hHeld => ?_)
            clear hK K
            refine pure_ (i := 14) (N := some 13) (v := ?_) (a' := ?_) #[true, true, true, true, true, true, true, true, true, true, true, true, true, true, true] rfl rfl (any_of HT_.out (by kernel_rfl)) (fun _ _ _ h => h) (Or.inl ⟨by rfl, ?_⟩) ?_ ?_
            rotate_left
            ·
             intro w'
             go_simp
             with_reducible rfl
            rotate_left
            ·
             simp only [Act.put, List.setIfInBounds_toArray, List.set_cons_zero, List.set_cons_succ, i64_w, i32_w]
             rfl
            refine done_ (done_of HT_.out (by kernel_rfl)) ?_
            try go_wp2
            refine bodyPost_ret (results_ct rfl _ _ af 34 #[.slice Ao93 aF.length co93, .slice Ao92 bv.length co92] (0, 0) _ rfl (by (with_reducible repeat (first | refine blk_drewN ?_ _ | refine blk_drew ?_ | refine blk_alloc ?_ _)); refine blk_put (cs := #[.slice Ao93 aF.length co93, .slice none 0 0]) ?_ 1 _ rfl; (with_reducible repeat (first | refine blk_drewN ?_ _ | refine blk_drew ?_ | refine blk_alloc ?_ _)); refine blk_put (cs := #[.slice none 0 0, .slice none 0 0]) ?_ 0 _ rfl; (with_reducible repeat (first | refine blk_drewN ?_ _ | refine blk_drew ?_ | refine blk_alloc ?_ _)); exact ag.out) Try.underlying34 rfl (by kernel_rfl)) rfl ?_
            exact ⟨_, _, by first | rfl | (simp [errW_none, errW_some] <;> rfl) | (simp [*, errW_none, errW_some] <;> rfl), by (with_reducible repeat (first | apply Kd.R_alloc | apply Kd.R_drewN | apply Kd.R_drew)); exact Kd.R_mono (Kd.R_far (p := ⟨af, 1, none⟩) (Kd.R_far (p := ⟨af, 0, none⟩) (Kd.R_types HO140.out ag.out (by decide)) (fun _ hk => hk.2) (.slice Ao93 aF.length co93)) (fun _ hk => hk.2) (.slice Ao92 bv.length co92)) (fun _ hk => trivial), by (with_reducible repeat (first | apply Kd.R_alloc | apply Kd.R_drewN | apply Kd.R_drew)); exact Kd.R_mono (Kd.R_far (p := ⟨af, 1, none⟩) (Kd.R_far (p := ⟨af, 0, none⟩) (Kd.R_types HO149.out ag.out (by decide)) (fun _ hk => hk.2) (.slice Ao93 aF.length co93)) (fun _ hk => hk.2) (.slice Ao92 bv.length co92)) (fun _ hk => trivial), by repeat (first | (with_reducible first | exact HB.out | apply below_alloc | apply pw_below_drewN | apply below_drew1 | refine below_set ?_ aq.out | refine below_set ?_ av.out | refine below_set ?_ ay.out | refine below_set ?_ bc.out) | exact HB.out)⟩
           ·
            replace c69 := Bool.eq_false_iff.mpr c69
            subst c69
            have H1 : ((batonref20_conds.f ah ai aj ak al am ac ab an a1 a2 true).bind fun aG => ((batonref20_puts.f a1 a2 a3 (wrap64 (ab + 1)) a4 false).bind fun aE => ((batonref20_putsTenant.f a1 (wrap64 (ac + 1)) (wrap64 (ab + 1))).bind fun aA => (some (aG, (([(⟨aE.1, aE.2.1, aE.2.2⟩ : S85), (⟨aA.1, aA.2.1, aA.2.2⟩ : S85)] : List (S85))), 0))))) = some (r1, r2, r3) := by rw [if_neg (show ¬ (false = true) by decide)] at H; exact H
            clear H
            have H := H1
            clear H1
            replace H := Option.bind_eq_some_iff.mp H
            obtain ⟨aG, A960, H⟩ := H
            replace H : ((batonref20_puts.f a1 a2 a3 (wrap64 (ab + 1)) a4 false).bind fun aE => ((batonref20_putsTenant.f a1 (wrap64 (ac + 1)) (wrap64 (ab + 1))).bind fun aA => (some (aG, (([(⟨aE.1, aE.2.1, aE.2.2⟩ : S85), (⟨aA.1, aA.2.1, aA.2.2⟩ : S85)] : List (S85))), 0)))) = some (r1, r2, r3) := H
            have A96 := Aside0.mk A960
            clear A960
            replace H := Option.bind_eq_some_iff.mp H
            obtain ⟨⟨a0, a6, a7⟩, A970, H⟩ := H
            replace H : ((batonref20_putsTenant.f a1 (wrap64 (ac + 1)) (wrap64 (ab + 1))).bind fun aA => (some (aG, (([(⟨a0, a6, a7⟩ : S85), (⟨aA.1, aA.2.1, aA.2.2⟩ : S85)] : List (S85))), 0))) = some (r1, r2, r3) := H
            have A97 := Aside0.mk A970
            clear A970
            replace H := Option.bind_eq_some_iff.mp H
            obtain ⟨⟨bd, be, bf⟩, A980, H⟩ := H
            replace H : (some (aG, (([(⟨a0, a6, a7⟩ : S85), (⟨bd, be, bf⟩ : S85)] : List (S85))), 0)) = some (r1, r2, r3) := H
            have A98 := Aside0.mk A980
            clear A980
            obtain ⟨bw, hy160⟩ : ∃ y_ : List (S85), y_ = (([(⟨a0, a6, a7⟩ : S85), (⟨bd, be, bf⟩ : S85)] : List (S85))) := ⟨_, rfl⟩
            replace H : (some (aG, bw, 0)) = some (r1, r2, r3) := by first | (rw [hy160]; with_reducible exact H) | (have H2_ := (Option.bind_some _ _).symm.trans H; rw [hy160]; with_reducible exact H2_) | (have H2_ := (Option.bind_some _ _).symm.trans H; with_reducible exact H2_) | with_reducible exact H | (rw [hy160]; exact H) | exact H
            have Ny160 := Aside0.mk hy160
            clear hy160
            simp only [Option.some.injEq, Prod.mk.injEq] at H
            obtain ⟨rfl, rfl, rfl⟩ := H
            have fz := a8.out
            have fA := aH.out
            have fB := aC.out
            have fC := aB.out
            have fD : wc.cell? ⟨ao, 0, none⟩ = some (.int .i64 ac) := (blk_cell ae.out 0).trans rfl
            have fE : wc.cell? ⟨ao, 1, none⟩ = some (.int .i64 ab) := (blk_cell ae.out 1).trans rfl
            have fF := blk_frozen ae.out 0
            have fG := blk_frozen ae.out 1
            have fH := ap.out
            have fI := aK.out
            have fJ : wc.cell? ⟨ad, 0, none⟩ = some (.string ah) := (blk_cell aa.out 0).trans rfl
            have fK : wc.cell? ⟨ad, 1, none⟩ = some (.int .i64 ai) := (blk_cell aa.out 1).trans rfl
            have fL : wc.cell? ⟨ad, 2, none⟩ = some (.int .i64 aj) := (blk_cell aa.out 2).trans rfl
            have fM : wc.cell? ⟨ad, 3, none⟩ = some (.bool ak) := (blk_cell aa.out 3).trans rfl
            have fN : wc.cell? ⟨ad, 4, none⟩ = some (.bool al) := (blk_cell aa.out 4).trans rfl
            have fO : wc.cell? ⟨ad, 5, none⟩ = some (.int .i64 am) := (blk_cell aa.out 5).trans rfl
            have fP : wc.cell? ⟨ad, 6, none⟩ = some (.int .i64 ac) := (blk_cell aa.out 6).trans rfl
            have fQ : wc.cell? ⟨ad, 7, none⟩ = some (.int .i64 ab) := (blk_cell aa.out 7).trans rfl
            have fR : wc.cell? ⟨ad, 8, none⟩ = some (.int .i64 an) := (blk_cell aa.out 8).trans rfl
            have fS := blk_frozen aa.out 0
            have fT := blk_frozen aa.out 1
            have fU := blk_frozen aa.out 2
            have fV := blk_frozen aa.out 3
            have fW := blk_frozen aa.out 4
            have fX := blk_frozen aa.out 5
            have fY := blk_frozen aa.out 6
            have fZ := blk_frozen aa.out 7
            have f0 := blk_frozen aa.out 8
            try go_wp2_with (first | ((with_reducible refine gate_callee (f := 31) rfl ?_); refine goesL_ (some 65) rfl rfl Try.func31 (by kernel_rfl) rfl #[.agg #[.string ah, .int .i64 ai, .int .i64 aj, .bool ak, .bool al, .int .i64 am, .int .i64 ac, .int .i64 ab, .int .i64 an]] rfl (by (try simp only [List.map_toArray, List.map_cons, List.map_nil]); first | done | rfl | (simp only [List.length_drop, List.length_take]; rfl)) ?_; (with_reducible refine (batonref20_Live.calls ah ai aj ak al am ac ab an false _ A68.out).mono ?_); rintro e w104 ⟨rfl, hb⟩; refine ⟨_, rfl, ?_⟩; have n0_ := Aside0.mk (blk_below (g := ad) (o := .cells #[.string ah, .int .i64 ai, .int .i64 aj, .bool ak, .bool al, .int .i64 am, .int .i64 ac, .int .i64 ab, .int .i64 an] 27 (0, 0)) (by (with_reducible repeat (first | refine blk_drewN ?_ _ | refine blk_drew ?_ | refine blk_alloc ?_ _)); refine blk_far ?_ aH.out _; (with_reducible repeat (first | refine blk_drewN ?_ _ | refine blk_drew ?_ | refine blk_alloc ?_ _)); exact aa.out) hb); have n1_ := Aside0.mk (blk_below (g := af) (o := .cells #[.slice none 0 0, .slice none 0 0] 34 (0, 0)) (by (with_reducible repeat (first | refine blk_drewN ?_ _ | refine blk_drew ?_ | refine blk_alloc ?_ _)); refine blk_far ?_ aB.out _; (with_reducible repeat (first | refine blk_drewN ?_ _ | refine blk_drew ?_ | refine blk_alloc ?_ _)); exact ag.out) hb); have n2_ := Aside0.mk (blk_below (g := ao) (o := .cells #[.int .i64 ac, .int .i64 (wrap64 (ab + 1))] 25 (0, 0)) (by (with_reducible repeat (first | refine blk_drewN ?_ _ | refine blk_drew ?_ | refine blk_alloc ?_ _)); refine blk_put (cs := #[.int .i64 ac, .int .i64 ab]) ?_ 1 _ rfl; (with_reducible repeat (first | refine blk_drewN ?_ _ | refine blk_drew ?_ | refine blk_alloc ?_ _)); exact ae.out) hb); have n3_ := Aside0.mk (below_step (by repeat (first | (with_reducible first | exact HB.out | apply below_alloc | apply pw_below_drewN | apply below_drew1 | refine below_set ?_ aq.out | refine below_set ?_ av.out | refine below_set ?_ ay.out) | exact HB.out)) hb); clear aa; clear ag; clear ae; clear HB; have aa := n0_; have ag := n1_; have ae := n2_; have HB := n3_; clear n0_ n1_ n2_ n3_; (try clear hb); (try clear hb2); (try clear hk); (try clear hi); have f1 : w104.cell? ⟨ao, 0, none⟩ = some (.int .i64 ac) := (blk_cell ae.out 0).trans rfl; have f2 : w104.cell? ⟨ao, 1, none⟩ = some (.int .i64 (wrap64 (ab + 1))) := (blk_cell ae.out 1).trans rfl; have f3 := blk_frozen ae.out 0; have f4 := blk_frozen ae.out 1) | ((with_reducible refine gate_dst (N := 15) rfl ?_); refine box_event ?hg (N := 15) ?hd (cs := #[.string (⟨#[]⟩ : ByteArray), .int .i64 0, .int .i64 0, .bool false]) (t := 23) ?hr ?_; (case hd => rfl); (case hg => rfl); (case hr => first | (go_simp; done) | (go_simp; rfl)); intro ax hg w106 hbox hb; have n0_ := Aside0.mk (blk_below (g := ad) (o := .cells #[.string ah, .int .i64 ai, .int .i64 aj, .bool ak, .bool al, .int .i64 am, .int .i64 ac, .int .i64 ab, .int .i64 an] 27 (0, 0)) (by (with_reducible repeat (first | refine blk_drewN ?_ _ | refine blk_drew ?_ | refine blk_alloc ?_ _)); refine blk_far ?_ aH.out _; (with_reducible repeat (first | refine blk_drewN ?_ _ | refine blk_drew ?_ | refine blk_alloc ?_ _)); exact aa.out) hb); have n1_ := Aside0.mk (blk_below (g := af) (o := .cells #[.slice none 0 0, .slice none 0 0] 34 (0, 0)) (by (with_reducible repeat (first | refine blk_drewN ?_ _ | refine blk_drew ?_ | refine blk_alloc ?_ _)); refine blk_far ?_ aB.out _; (with_reducible repeat (first | refine blk_drewN ?_ _ | refine blk_drew ?_ | refine blk_alloc ?_ _)); exact ag.out) hb); have n2_ := Aside0.mk (blk_below (g := ao) (o := .cells #[.int .i64 (wrap64 (ac + 1)), .int .i64 (wrap64 (ab + 1))] 25 (0, 0)) (by (with_reducible repeat (first | refine blk_drewN ?_ _ | refine blk_drew ?_ | refine blk_alloc ?_ _)); refine blk_put (cs := #[.int .i64 ac, .int .i64 (wrap64 (ab + 1))]) ?_ 0 _ rfl; (with_reducible repeat (first | refine blk_drewN ?_ _ | refine blk_drew ?_ | refine blk_alloc ?_ _)); exact ae.out) hb); have n3_ := Aside0.mk (below_step (by repeat (first | (with_reducible first | exact HB.out | apply below_alloc | apply pw_below_drewN | apply below_drew1 | refine below_set ?_ aq.out | refine below_set ?_ av.out | refine below_set ?_ ay.out) | exact HB.out)) hb); have n4_ := Aside0.mk (hbox); have n5_ := Aside0.mk ((by rw [hg]; exact (below_size (by repeat (first | (with_reducible first | exact HB.out | apply below_alloc | apply pw_below_drewN | apply below_drew1 | refine below_set ?_ aq.out | refine below_set ?_ av.out | refine below_set ?_ ay.out) | exact HB.out))) : w.heap.size ≤ ax)); have n6_ := Aside0.mk ((by rw [hg]; exact (below_size (by repeat (first | (with_reducible first | exact HB.out | apply below_alloc | apply pw_below_drewN | apply below_drew1 | refine below_set ?_ aq.out | refine below_set ?_ av.out | refine below_set ?_ ay.out) | exact HB.out))) : w.heap.size ≤ ax)); have n7_ := Aside0.mk ((by rw [hg]; exact Nat.ne_of_lt (blk_lt (g := ad) (o := .cells #[.string ah, .int .i64 ai, .int .i64 aj, .bool ak, .bool al, .int .i64 am, .int .i64 ac, .int .i64 ab, .int .i64 an] 27 (0, 0)) (by (with_reducible repeat (first | refine blk_drewN ?_ _ | refine blk_drew ?_ | refine blk_alloc ?_ _)); refine blk_far ?_ aH.out _; (with_reducible repeat (first | refine blk_drewN ?_ _ | refine blk_drew ?_ | refine blk_alloc ?_ _)); exact aa.out)) : ad ≠ ax)); have n8_ := Aside0.mk ((by rw [hg]; exact Nat.ne_of_gt (blk_lt (g := ad) (o := .cells #[.string ah, .int .i64 ai, .int .i64 aj, .bool ak, .bool al, .int .i64 am, .int .i64 ac, .int .i64 ab, .int .i64 an] 27 (0, 0)) (by (with_reducible repeat (first | refine blk_drewN ?_ _ | refine blk_drew ?_ | refine blk_alloc ?_ _)); refine blk_far ?_ aH.out _; (with_reducible repeat (first | refine blk_drewN ?_ _ | refine blk_drew ?_ | refine blk_alloc ?_ _)); exact aa.out)) : ax ≠ ad)); have n9_ := Aside0.mk ((by rw [hg]; exact Nat.ne_of_lt (blk_lt (g := af) (o := .cells #[.slice none 0 0, .slice none 0 0] 34 (0, 0)) (by (with_reducible repeat (first | refine blk_drewN ?_ _ | refine blk_drew ?_ | refine blk_alloc ?_ _)); refine blk_far ?_ aB.out _; (with_reducible repeat (first | refine blk_drewN ?_ _ | refine blk_drew ?_ | refine blk_alloc ?_ _)); exact ag.out)) : af ≠ ax)); have n10_ := Aside0.mk ((by rw [hg]; exact Nat.ne_of_gt (blk_lt (g := af) (o := .cells #[.slice none 0 0, .slice none 0 0] 34 (0, 0)) (by (with_reducible repeat (first | refine blk_drewN ?_ _ | refine blk_drew ?_ | refine blk_alloc ?_ _)); refine blk_far ?_ aB.out _; (with_reducible repeat (first | refine blk_drewN ?_ _ | refine blk_drew ?_ | refine blk_alloc ?_ _)); exact ag.out)) : ax ≠ af)); have n11_ := Aside0.mk ((by rw [hg]; exact Nat.ne_of_lt (blk_lt (g := ao) (o := .cells #[.int .i64 (wrap64 (ac + 1)), .int .i64 (wrap64 (ab + 1))] 25 (0, 0)) (by (with_reducible repeat (first | refine blk_drewN ?_ _ | refine blk_drew ?_ | refine blk_alloc ?_ _)); refine blk_put (cs := #[.int .i64 ac, .int .i64 (wrap64 (ab + 1))]) ?_ 0 _ rfl; (with_reducible repeat (first | refine blk_drewN ?_ _ | refine blk_drew ?_ | refine blk_alloc ?_ _)); exact ae.out)) : ao ≠ ax)); have n12_ := Aside0.mk ((by rw [hg]; exact Nat.ne_of_gt (blk_lt (g := ao) (o := .cells #[.int .i64 (wrap64 (ac + 1)), .int .i64 (wrap64 (ab + 1))] 25 (0, 0)) (by (with_reducible repeat (first | refine blk_drewN ?_ _ | refine blk_drew ?_ | refine blk_alloc ?_ _)); refine blk_put (cs := #[.int .i64 ac, .int .i64 (wrap64 (ab + 1))]) ?_ 0 _ rfl; (with_reducible repeat (first | refine blk_drewN ?_ _ | refine blk_drew ?_ | refine blk_alloc ?_ _)); exact ae.out)) : ax ≠ ao)); clear aa; clear ag; clear ae; clear HB; have aa := n0_; have ag := n1_; have ae := n2_; have HB := n3_; have au := n4_; have GW150 := n5_; have bg := n6_; have bq := n7_; have d2 := n8_; have bj := n9_; have aT := n10_; have br := n11_; have d3 := n12_; clear n0_ n1_ n2_ n3_ n4_ n5_ n6_ n7_ n8_ n9_ n10_ n11_ n12_; clear hb hbox hg; have f5 := d2.out; have f6 := bq.out; have f7 := aT.out; have f8 := bj.out; have f9 := d3.out; have ga := br.out; have gb : w106.cell? ⟨ax, 0, none⟩ = some (.string (⟨#[]⟩ : ByteArray)) := (blk_cell au.out 0).trans rfl; have gc : w106.cell? ⟨ax, 1, none⟩ = some (.int .i64 0) := (blk_cell au.out 1).trans rfl; have gd : w106.cell? ⟨ax, 2, none⟩ = some (.int .i64 0) := (blk_cell au.out 2).trans rfl; have ge : w106.cell? ⟨ax, 3, none⟩ = some (.bool false) := (blk_cell au.out 3).trans rfl; have gf := blk_frozen au.out 0; have gg := blk_frozen au.out 1; have gh := blk_frozen au.out 2; have gi := blk_frozen au.out 3))
            have n0_ : Aside0 (((((w106.setCell ⟨ax, 0, none⟩ (.string a3)).setCell ⟨ax, 1, none⟩ (.int .i64 (wrap64 (ab + 1)))).setCell ⟨ax, 2, none⟩ (.int .i64 a4)).setCell ⟨ax, 3, none⟩ (.bool false)).heap[ad]? = some (.cells #[.string ah, .int .i64 ai, .int .i64 aj, .bool ak, .bool al, .int .i64 am, .int .i64 ac, .int .i64 ab, .int .i64 an] 27 (0, 0))) := ⟨by (with_reducible repeat (first | refine blk_drewN ?_ _ | refine blk_drew ?_ | refine blk_alloc ?_ _)); refine blk_far ?_ bq.out _; (with_reducible repeat (first | refine blk_drewN ?_ _ | refine blk_drew ?_ | refine blk_alloc ?_ _)); refine blk_far ?_ bq.out _; (with_reducible repeat (first | refine blk_drewN ?_ _ | refine blk_drew ?_ | refine blk_alloc ?_ _)); refine blk_far ?_ bq.out _; (with_reducible repeat (first | refine blk_drewN ?_ _ | refine blk_drew ?_ | refine blk_alloc ?_ _)); refine blk_far ?_ bq.out _; (with_reducible repeat (first | refine blk_drewN ?_ _ | refine blk_drew ?_ | refine blk_alloc ?_ _)); exact aa.out⟩
            have n1_ : Aside0 (((((w106.setCell ⟨ax, 0, none⟩ (.string a3)).setCell ⟨ax, 1, none⟩ (.int .i64 (wrap64 (ab + 1)))).setCell ⟨ax, 2, none⟩ (.int .i64 a4)).setCell ⟨ax, 3, none⟩ (.bool false)).heap[af]? = some (.cells #[.slice none 0 0, .slice none 0 0] 34 (0, 0))) := ⟨by (with_reducible repeat (first | refine blk_drewN ?_ _ | refine blk_drew ?_ | refine blk_alloc ?_ _)); refine blk_far ?_ bj.out _; (with_reducible repeat (first | refine blk_drewN ?_ _ | refine blk_drew ?_ | refine blk_alloc ?_ _)); refine blk_far ?_ bj.out _; (with_reducible repeat (first | refine blk_drewN ?_ _ | refine blk_drew ?_ | refine blk_alloc ?_ _)); refine blk_far ?_ bj.out _; (with_reducible repeat (first | refine blk_drewN ?_ _ | refine blk_drew ?_ | refine blk_alloc ?_ _)); refine blk_far ?_ bj.out _; (with_reducible repeat (first | refine blk_drewN ?_ _ | refine blk_drew ?_ | refine blk_alloc ?_ _)); exact ag.out⟩
            have n2_ : Aside0 (((((w106.setCell ⟨ax, 0, none⟩ (.string a3)).setCell ⟨ax, 1, none⟩ (.int .i64 (wrap64 (ab + 1)))).setCell ⟨ax, 2, none⟩ (.int .i64 a4)).setCell ⟨ax, 3, none⟩ (.bool false)).heap[ao]? = some (.cells #[.int .i64 (wrap64 (ac + 1)), .int .i64 (wrap64 (ab + 1))] 25 (0, 0))) := ⟨by (with_reducible repeat (first | refine blk_drewN ?_ _ | refine blk_drew ?_ | refine blk_alloc ?_ _)); refine blk_far ?_ br.out _; (with_reducible repeat (first | refine blk_drewN ?_ _ | refine blk_drew ?_ | refine blk_alloc ?_ _)); refine blk_far ?_ br.out _; (with_reducible repeat (first | refine blk_drewN ?_ _ | refine blk_drew ?_ | refine blk_alloc ?_ _)); refine blk_far ?_ br.out _; (with_reducible repeat (first | refine blk_drewN ?_ _ | refine blk_drew ?_ | refine blk_alloc ?_ _)); refine blk_far ?_ br.out _; (with_reducible repeat (first | refine blk_drewN ?_ _ | refine blk_drew ?_ | refine blk_alloc ?_ _)); exact ae.out⟩
            have n3_ : Aside0 (((((w106.setCell ⟨ax, 0, none⟩ (.string a3)).setCell ⟨ax, 1, none⟩ (.int .i64 (wrap64 (ab + 1)))).setCell ⟨ax, 2, none⟩ (.int .i64 a4)).setCell ⟨ax, 3, none⟩ (.bool false)).heap[ax]? = some (.cells #[.string a3, .int .i64 (wrap64 (ab + 1)), .int .i64 a4, .bool false] 23 (0, 0))) := ⟨by (with_reducible repeat (first | refine blk_drewN ?_ _ | refine blk_drew ?_ | refine blk_alloc ?_ _)); refine blk_put (cs := #[.string a3, .int .i64 (wrap64 (ab + 1)), .int .i64 a4, .bool false]) ?_ 3 _ rfl; (with_reducible repeat (first | refine blk_drewN ?_ _ | refine blk_drew ?_ | refine blk_alloc ?_ _)); refine blk_put (cs := #[.string a3, .int .i64 (wrap64 (ab + 1)), .int .i64 0, .bool false]) ?_ 2 _ rfl; (with_reducible repeat (first | refine blk_drewN ?_ _ | refine blk_drew ?_ | refine blk_alloc ?_ _)); refine blk_put (cs := #[.string a3, .int .i64 0, .int .i64 0, .bool false]) ?_ 1 _ rfl; (with_reducible repeat (first | refine blk_drewN ?_ _ | refine blk_drew ?_ | refine blk_alloc ?_ _)); refine blk_put (cs := #[.string (⟨#[]⟩ : ByteArray), .int .i64 0, .int .i64 0, .bool false]) ?_ 0 _ rfl; (with_reducible repeat (first | refine blk_drewN ?_ _ | refine blk_drew ?_ | refine blk_alloc ?_ _)); exact au.out⟩
            have n4_ : Aside0 (Below w.heap.size w ((((w106.setCell ⟨ax, 0, none⟩ (.string a3)).setCell ⟨ax, 1, none⟩ (.int .i64 (wrap64 (ab + 1)))).setCell ⟨ax, 2, none⟩ (.int .i64 a4)).setCell ⟨ax, 3, none⟩ (.bool false))) := ⟨by repeat (first | (with_reducible first | exact HB.out | apply below_alloc | apply pw_below_drewN | apply below_drew1 | refine below_set ?_ aq.out | refine below_set ?_ av.out | refine below_set ?_ ay.out | refine below_set ?_ bg.out) | exact HB.out)⟩
            (try clear aa)
            (try clear ag)
            (try clear ae)
            (try clear au)
            (try clear HB)
            generalize ((((w106.setCell ⟨ax, 0, none⟩ (.string a3)).setCell ⟨ax, 1, none⟩ (.int .i64 (wrap64 (ab + 1)))).setCell ⟨ax, 2, none⟩ (.int .i64 a4)).setCell ⟨ax, 3, none⟩ (.bool false)) = w111 at n0_ n1_ n2_ n3_ n4_ ⊢
            have aa := n0_
            have ag := n1_
            have ae := n2_
            have au := n3_
            have HB := n4_
            clear n0_ n1_ n2_ n3_ n4_
            have n0_ := Aside0.mk (blk_drew aa.out)
            have n1_ := Aside0.mk (blk_drew ag.out)
            have n2_ := Aside0.mk (blk_drew ae.out)
            have n3_ := Aside0.mk (blk_drew au.out)
            have n4_ := Aside0.mk (below_drew1 HB.out)
            clear aa
            clear ag
            clear ae
            clear au
            clear HB
            have aa := n0_
            have ag := n1_
            have ae := n2_
            have au := n3_
            have HB := n4_
            clear n0_ n1_ n2_ n3_ n4_
            refine start_ (n := 15) (S := fun w' => w'.cell? ⟨ad, 0, none⟩ = some (.string ah) ∧ w'.cell? ⟨ad, 1, none⟩ = some (.int .i64 ai) ∧ w'.cell? ⟨ad, 2, none⟩ = some (.int .i64 aj) ∧ w'.cell? ⟨ad, 3, none⟩ = some (.bool ak) ∧ w'.cell? ⟨ad, 4, none⟩ = some (.bool al) ∧ w'.cell? ⟨ad, 5, none⟩ = some (.int .i64 am) ∧ w'.cell? ⟨ad, 6, none⟩ = some (.int .i64 ac) ∧ w'.cell? ⟨ad, 7, none⟩ = some (.int .i64 ab) ∧ w'.cell? ⟨ad, 8, none⟩ = some (.int .i64 an) ∧ w'.cell? ⟨ax, 0, none⟩ = some (.string a3) ∧ w'.cell? ⟨ax, 1, none⟩ = some (.int .i64 (wrap64 (ab + 1))) ∧ w'.cell? ⟨ax, 2, none⟩ = some (.int .i64 a4) ∧ w'.cell? ⟨ax, 3, none⟩ = some (.bool false) ∧ w'.cell? ⟨ao, 0, none⟩ = some (.int .i64 (wrap64 (ac + 1))) ∧ w'.cell? ⟨ao, 1, none⟩ = some (.int .i64 (wrap64 (ab + 1)))) (ds := []) #[false, false, false, false, false, false, false, false, false, false, false, false, false, false, false] (by kernel_rfl) rfl rfl ⟨(blk_cell aa.out 0).trans rfl, (blk_cell aa.out 1).trans rfl, (blk_cell aa.out 2).trans rfl, (blk_cell aa.out 3).trans rfl, (blk_cell aa.out 4).trans rfl, (blk_cell aa.out 5).trans rfl, (blk_cell aa.out 6).trans rfl, (blk_cell aa.out 7).trans rfl, (blk_cell aa.out 8).trans rfl, (blk_cell au.out 0).trans rfl, (blk_cell au.out 1).trans rfl, (blk_cell au.out 2).trans rfl, (blk_cell au.out 3).trans rfl, (blk_cell ae.out 0).trans rfl, (blk_cell ae.out 1).trans rfl⟩ (fun hHeld => ?_); refine with_tabW batonref20_Elect.tab14 batonref20_Elect.bits14 (fun HT_ HW_ => ?_)
            generalize w111.drew = w112 at aa ag ae au HB hHeld ⊢
            refine pure_ (i := 1) (N := some 77) (v := ?_) (a' := ?_) #[false, true, false, false, false, false, false, false, false, false, false, false, false, false, false] rfl rfl (any_of HT_.out (by kernel_rfl)) (fun _ _ _ h => h) (Or.inl ⟨by rfl, ?_⟩) ?_ ?_
            rotate_left
            ·
             intro w'
             go_simp
             with_reducible rfl
            rotate_left
            ·
             simp only [Act.put, List.setIfInBounds_toArray, List.set_cons_zero, List.set_cons_succ, i64_w, i32_w]
             rfl
            refine pure_ (i := 2) (N := some 78) (v := ?_) (a' := ?_) #[false, true, true, false, false, false, false, false, false, false, false, false, false, false, false] rfl rfl (any_of HT_.out (by kernel_rfl)) (fun _ _ _ h => h) (Or.inl ⟨by rfl, ?_⟩) ?_ ?_
            rotate_left
            ·
             intro w'
             go_simp
             with_reducible rfl
            rotate_left
            ·
             simp only [Act.put, List.setIfInBounds_toArray, List.set_cons_zero, List.set_cons_succ, i64_w, i32_w]
             rfl
            refine pure_ (i := 4) (N := some 80) (v := ?_) (a' := ?_) #[false, true, true, false, true, false, false, false, false, false, false, false, false, false, false] rfl rfl (any_of HT_.out (by kernel_rfl)) (fun _ _ _ h => h) (Or.inl ⟨by rfl, ?_⟩) ?_ ?_
            rotate_left
            ·
             intro w'
             go_simp
             with_reducible rfl
            rotate_left
            ·
             simp only [Act.put, List.setIfInBounds_toArray, List.set_cons_zero, List.set_cons_succ, i64_w, i32_w]
             rfl
            refine pure_ (i := 5) (N := some 81) (v := ?_) (a' := ?_) #[false, true, true, false, true, true, false, false, false, false, false, false, false, false, false] rfl rfl (any_of HT_.out (by kernel_rfl)) (fun _ _ _ h => h) (Or.inl ⟨by rfl, ?_⟩) ?_ ?_
            rotate_left
            ·
             intro w'
             go_simp
             with_reducible rfl
            rotate_left
            ·
             simp only [Act.put, List.setIfInBounds_toArray, List.set_cons_zero, List.set_cons_succ, i64_w, i32_w]
             rfl
            refine pure_ (i := 8) (N := some 84) (v := ?_) (a' := ?_) #[false, true, true, false, true, true, false, false, true, false, false, false, false, false, false] rfl rfl (any_of HT_.out (by kernel_rfl)) (fun _ _ _ h => h) (Or.inl ⟨by rfl, ?_⟩) ?_ ?_
            rotate_left
            ·
             intro w'
             go_simp
             with_reducible rfl
            rotate_left
            ·
             simp only [Act.put, List.setIfInBounds_toArray, List.set_cons_zero, List.set_cons_succ, i64_w, i32_w]
             rfl
            refine take_ (i := 0) (N := some 76) (v := ?_) (a' := ?_) #[true, true, true, false, true, true, false, false, true, false, false, false, false, false, false] rfl rfl (take_ofW HT_.out HW_.out (by kernel_rfl)) (fun _ _ _ h => h) (Or.inl ⟨by rfl, ?_⟩) hHeld ?_ ?_
            rotate_left
            ·
             rintro w' ⟨s0, s1, s2, s3, s4, s5, s6, s7, s8, s9, s10, s11, s12, s13, s14⟩
             go_simp
             with_reducible rfl
            rotate_left
            ·
             simp only [Act.put, List.setIfInBounds_toArray, List.set_cons_zero, List.set_cons_succ, i64_w, i32_w]
             rfl
            refine take_ (i := 6) (N := some 82) (v := ?_) (a' := ?_) #[true, true, true, false, true, true, true, false, true, false, false, false, false, false, false] rfl rfl (take_ofW HT_.out HW_.out (by kernel_rfl)) (fun _ _ _ h => h) (Or.inl ⟨by rfl, ?_⟩) hHeld ?_ ?_
            rotate_left
            ·
             rintro w' ⟨s0, s1, s2, s3, s4, s5, s6, s7, s8, s9, s10, s11, s12, s13, s14⟩
             go_simp
             with_reducible rfl
            rotate_left
            ·
             simp only [Act.put, List.setIfInBounds_toArray, List.set_cons_zero, List.set_cons_succ, i64_w, i32_w]
             rfl
            refine take_ (i := 9) (N := some 85) (v := ?_) (a' := ?_) #[true, true, true, false, true, true, true, false, true, true, false, false, false, false, false] rfl rfl (take_ofW HT_.out HW_.out (by kernel_rfl)) (fun _ _ _ h => h) (Or.inl ⟨by rfl, ?_⟩) hHeld ?_ ?_
            rotate_left
            ·
             rintro w' ⟨s0, s1, s2, s3, s4, s5, s6, s7, s8, s9, s10, s11, s12, s13, s14⟩
             go_simp
             with_reducible rfl
            rotate_left
            ·
             simp only [Act.put, List.setIfInBounds_toArray, List.set_cons_zero, List.set_cons_succ, i64_w, i32_w]
             rfl
            refine one_ (i := 3) (N := some 79) #[true, true, true, true, true, true, true, false, true, true, false, false, false, false, false] rfl rfl (one_of HT_.out (by kernel_rfl)) (by decide) (fun K hK => ?_)
            refine goes_ Try.func110 (by kernel_rfl) rfl #[.agg #[.string ah, .int .i64 ai, .int .i64 aj, .bool ak, .bool al, .int .i64 am, .int .i64 ac, .int .i64 ab, .int .i64 an], .string a1, .string a2, .bool true] (by rfl) rfl rfl (by (try simp only [List.map_toArray, List.map_cons, List.map_nil]); first | done | rfl | (simp only [List.length_drop, List.length_take]; rfl)) ?_
            with_reducible refine (batonref20_conds.calls ah ai aj ak al am ac ab an a1 a2 true aG _ A96.out).mono ?_
            rintro e w113 ⟨v152, rfl, ho0, hb⟩
            refine ⟨_, rfl, ?_⟩
            have n0_ := Aside0.mk (Kd.R_lower ho0 (below_size (by repeat (first | (with_reducible first | exact HB.out | apply below_alloc | apply pw_below_drewN | apply below_drew1 | refine below_set ?_ aq.out | refine below_set ?_ av.out | refine below_set ?_ ay.out | refine below_set ?_ bg.out) | exact HB.out))))
            have n1_ := Aside0.mk (blk_below (g := ad) (o := .cells #[.string ah, .int .i64 ai, .int .i64 aj, .bool ak, .bool al, .int .i64 am, .int .i64 ac, .int .i64 ab, .int .i64 an] 27 (0, 0)) (by (with_reducible repeat (first | refine blk_drewN ?_ _ | refine blk_drew ?_ | refine blk_alloc ?_ _)); exact aa.out) hb)
            have n2_ := Aside0.mk (blk_below (g := af) (o := .cells #[.slice none 0 0, .slice none 0 0] 34 (0, 0)) (by (with_reducible repeat (first | refine blk_drewN ?_ _ | refine blk_drew ?_ | refine blk_alloc ?_ _)); exact ag.out) hb)
            have n3_ := Aside0.mk (blk_below (g := ao) (o := .cells #[.int .i64 (wrap64 (ac + 1)), .int .i64 (wrap64 (ab + 1))] 25 (0, 0)) (by (with_reducible repeat (first | refine blk_drewN ?_ _ | refine blk_drew ?_ | refine blk_alloc ?_ _)); exact ae.out) hb)
            have n4_ := Aside0.mk (blk_below (g := ax) (o := .cells #[.string a3, .int .i64 (wrap64 (ab + 1)), .int .i64 a4, .bool false] 23 (0, 0)) (by (with_reducible repeat (first | refine blk_drewN ?_ _ | refine blk_drew ?_ | refine blk_alloc ?_ _)); exact au.out) hb)
            have n5_ := Aside0.mk (below_step (by repeat (first | (with_reducible first | exact HB.out | apply below_alloc | apply pw_below_drewN | apply below_drew1 | refine below_set ?_ aq.out | refine below_set ?_ av.out | refine below_set ?_ ay.out | refine below_set ?_ bg.out) | exact HB.out)) hb)
            clear aa
            clear ag
            clear ae
            clear au
            clear HB
            have HO153 := n0_
            have aa := n1_
            have ag := n2_
            have ae := n3_
            have au := n4_
            have HB := n5_
            clear n0_ n1_ n2_ n3_ n4_ n5_
            (try clear hb)
            (try clear hb2)
            (try clear hk)
            (try clear hi)
            (try clear ho0)
            refine hK.out _ _ ⟨(blk_cell aa.out 0).trans rfl, (blk_cell aa.out 1).trans rfl, (blk_cell aa.out 2).trans rfl, (blk_cell aa.out 3).trans rfl, (blk_cell aa.out 4).trans rfl, (blk_cell aa.out 5).trans rfl, (blk_cell aa.out 6).trans rfl, (blk_cell aa.out 7).trans rfl, (blk_cell aa.out 8).trans rfl, (blk_cell au.out 0).trans rfl, (blk_cell au.out 1).trans rfl, (blk_cell au.out 2).trans rfl, (blk_cell au.out 3).trans rfl, (blk_cell ae.out 0).trans rfl, (blk_cell ae.out 1).trans rfl⟩ (fun hHeld => ?_)
            clear hK K
            refine norm_ (a' := ?_) ?_ ?_
            rotate_left
            ·
             show Act.put _ (some 79) _ = _
             simp only [Act.put, List.setIfInBounds_toArray, List.set_cons_zero, List.set_cons_succ, i64_w, i32_w]
             rfl
            refine one_ (i := 7) (N := some 83) #[true, true, true, true, true, true, true, true, true, true, false, false, false, false, false] rfl rfl (one_of HT_.out (by kernel_rfl)) (by decide) (fun K hK => ?_)
            refine goes_ Try.func111 (by kernel_rfl) rfl #[.string a1, .string a2, .agg #[.string a3, .int .i64 (wrap64 (ab + 1)), .int .i64 a4, .bool false]] (by rfl) rfl rfl (by (try simp only [List.map_toArray, List.map_cons, List.map_nil]); first | done | rfl | (simp only [List.length_drop, List.length_take]; rfl)) ?_
            with_reducible refine (batonref20_puts.calls a1 a2 a3 (wrap64 (ab + 1)) a4 false a0 a6 a7 _ A97.out).mono ?_
            rintro e w114 ⟨rfl, hb⟩
            refine ⟨_, rfl, ?_⟩
            have n0_ := Aside0.mk (Kd.R_below (by (with_reducible repeat (first | apply Kd.R_alloc | apply Kd.R_drewN | apply Kd.R_drew)); exact HO153.out) hb)
            have n1_ := Aside0.mk (blk_below (g := ad) (o := .cells #[.string ah, .int .i64 ai, .int .i64 aj, .bool ak, .bool al, .int .i64 am, .int .i64 ac, .int .i64 ab, .int .i64 an] 27 (0, 0)) (by (with_reducible repeat (first | refine blk_drewN ?_ _ | refine blk_drew ?_ | refine blk_alloc ?_ _)); exact aa.out) hb)
            have n2_ := Aside0.mk (blk_below (g := af) (o := .cells #[.slice none 0 0, .slice none 0 0] 34 (0, 0)) (by (with_reducible repeat (first | refine blk_drewN ?_ _ | refine blk_drew ?_ | refine blk_alloc ?_ _)); exact ag.out) hb)
            have n3_ := Aside0.mk (blk_below (g := ao) (o := .cells #[.int .i64 (wrap64 (ac + 1)), .int .i64 (wrap64 (ab + 1))] 25 (0, 0)) (by (with_reducible repeat (first | refine blk_drewN ?_ _ | refine blk_drew ?_ | refine blk_alloc ?_ _)); exact ae.out) hb)
            have n4_ := Aside0.mk (blk_below (g := ax) (o := .cells #[.string a3, .int .i64 (wrap64 (ab + 1)), .int .i64 a4, .bool false] 23 (0, 0)) (by (with_reducible repeat (first | refine blk_drewN ?_ _ | refine blk_drew ?_ | refine blk_alloc ?_ _)); exact au.out) hb)
            have n5_ := Aside0.mk (below_step (by repeat (first | (with_reducible first | exact HB.out | apply below_alloc | apply pw_below_drewN | apply below_drew1 | refine below_set ?_ aq.out | refine below_set ?_ av.out | refine below_set ?_ ay.out | refine below_set ?_ bg.out) | exact HB.out)) hb)
            clear HO153
            clear aa
            clear ag
            clear ae
            clear au
            clear HB
            have HO153 := n0_
            have aa := n1_
            have ag := n2_
            have ae := n3_
            have au := n4_
            have HB := n5_
            clear n0_ n1_ n2_ n3_ n4_ n5_
            (try clear hb)
            (try clear hb2)
            (try clear hk)
            (try clear hi)
            refine hK.out _ _ ⟨(blk_cell aa.out 0).trans rfl, (blk_cell aa.out 1).trans rfl, (blk_cell aa.out 2).trans rfl, (blk_cell aa.out 3).trans rfl, (blk_cell aa.out 4).trans rfl, (blk_cell aa.out 5).trans rfl, (blk_cell aa.out 6).trans rfl, (blk_cell aa.out 7).trans rfl, (blk_cell aa.out 8).trans rfl, (blk_cell au.out 0).trans rfl, (blk_cell au.out 1).trans rfl, (blk_cell au.out 2).trans rfl, (blk_cell au.out 3).trans rfl, (blk_cell ae.out 0).trans rfl, (blk_cell ae.out 1).trans rfl⟩ (fun hHeld => ?_)
            clear hK K
            refine norm_ (a' := ?_) ?_ ?_
            rotate_left
            ·
             show Act.put _ (some 83) _ = _
             simp only [Act.put, List.setIfInBounds_toArray, List.set_cons_zero, List.set_cons_succ, i64_w, i32_w]
             rfl
            refine one_ (i := 10) (N := some 86) #[true, true, true, true, true, true, true, true, true, true, true, false, false, false, false] rfl rfl (one_of HT_.out (by kernel_rfl)) (by decide) (fun K hK => ?_)
            refine goes_ Try.func112 (by kernel_rfl) rfl #[.string a1, .agg #[.int .i64 (wrap64 (ac + 1)), .int .i64 (wrap64 (ab + 1))]] (by rfl) rfl rfl (by (try simp only [List.map_toArray, List.map_cons, List.map_nil]); first | done | rfl | (simp only [List.length_drop, List.length_take]; rfl)) ?_
            with_reducible refine (batonref20_putsTenant.calls a1 (wrap64 (ac + 1)) (wrap64 (ab + 1)) bd be bf _ A98.out).mono ?_
            rintro e w115 ⟨rfl, hb⟩
            refine ⟨_, rfl, ?_⟩
            have n0_ := Aside0.mk (Kd.R_below (by (with_reducible repeat (first | apply Kd.R_alloc | apply Kd.R_drewN | apply Kd.R_drew)); exact HO153.out) hb)
            have n1_ := Aside0.mk (blk_below (g := ad) (o := .cells #[.string ah, .int .i64 ai, .int .i64 aj, .bool ak, .bool al, .int .i64 am, .int .i64 ac, .int .i64 ab, .int .i64 an] 27 (0, 0)) (by (with_reducible repeat (first | refine blk_drewN ?_ _ | refine blk_drew ?_ | refine blk_alloc ?_ _)); exact aa.out) hb)
            have n2_ := Aside0.mk (blk_below (g := af) (o := .cells #[.slice none 0 0, .slice none 0 0] 34 (0, 0)) (by (with_reducible repeat (first | refine blk_drewN ?_ _ | refine blk_drew ?_ | refine blk_alloc ?_ _)); exact ag.out) hb)
            have n3_ := Aside0.mk (blk_below (g := ao) (o := .cells #[.int .i64 (wrap64 (ac + 1)), .int .i64 (wrap64 (ab + 1))] 25 (0, 0)) (by (with_reducible repeat (first | refine blk_drewN ?_ _ | refine blk_drew ?_ | refine blk_alloc ?_ _)); exact ae.out) hb)
            have n4_ := Aside0.mk (blk_below (g := ax) (o := .cells #[.string a3, .int .i64 (wrap64 (ab + 1)), .int .i64 a4, .bool false] 23 (0, 0)) (by (with_reducible repeat (first | refine blk_drewN ?_ _ | refine blk_drew ?_ | refine blk_alloc ?_ _)); exact au.out) hb)
            have n5_ := Aside0.mk (below_step (by repeat (first | (with_reducible first | exact HB.out | apply below_alloc | apply pw_below_drewN | apply below_drew1 | refine below_set ?_ aq.out | refine below_set ?_ av.out | refine below_set ?_ ay.out | refine below_set ?_ bg.out) | exact HB.out)) hb)
            clear HO153
            clear aa
            clear ag
            clear ae
            clear au
            clear HB
            have HO153 := n0_
            have aa := n1_
            have ag := n2_
            have ae := n3_
            have au := n4_
            have HB := n5_
            clear n0_ n1_ n2_ n3_ n4_ n5_
            (try clear hb)
            (try clear hb2)
            (try clear hk)
            (try clear hi)
            refine hK.out _ _ ⟨(blk_cell aa.out 0).trans rfl, (blk_cell aa.out 1).trans rfl, (blk_cell aa.out 2).trans rfl, (blk_cell aa.out 3).trans rfl, (blk_cell aa.out 4).trans rfl, (blk_cell aa.out 5).trans rfl, (blk_cell aa.out 6).trans rfl, (blk_cell aa.out 7).trans rfl, (blk_cell aa.out 8).trans rfl, (blk_cell au.out 0).trans rfl, (blk_cell au.out 1).trans rfl, (blk_cell au.out 2).trans rfl, (blk_cell au.out 3).trans rfl, (blk_cell ae.out 0).trans rfl, (blk_cell ae.out 1).trans rfl⟩ (fun hHeld => ?_)
            clear hK K
            refine norm_ (a' := ?_) ?_ ?_
            rotate_left
            ·
             show Act.put _ (some 86) _ = _
             simp only [Act.put, List.setIfInBounds_toArray, List.set_cons_zero, List.set_cons_succ, i64_w, i32_w]
             rfl
            refine one_ (i := 11) (N := some 87) #[true, true, true, true, true, true, true, true, true, true, true, true, false, false, false] rfl rfl (one_of HT_.out (by kernel_rfl)) (by decide) (fun K hK => ?_)
            refine Kd.R_lit_step k85 _ 85 ?hg (N := 87) ?hd (xs := ([(⟨a0, a6, a7⟩ : S85), (⟨bd, be, bf⟩ : S85)] : List (S85))) (inner := [.bool a0, .string a6, .string a7, .bool bd, .string be, .string bf]) (ok := fun _ => True) (okp := fun _ => True) ?hr ?hp (fun _ hk => hk) trivial (Below.refl _ _) (Nat.le_refl _) (by simp) ?_; (case hd => rfl); (case hg => rfl); (case hr => first | (go_simp; done) | (go_simp; rfl)); (case hp => exact (Reps.c3 (show Kd.M k85 _ _ _ (⟨a0, a6, a7⟩ : S85) [.bool a0, .string a6, .string a7] from (k85_mkM _ _ _ (⟨a0, a6, a7⟩ : S85) )) (Reps.c3 (show Kd.M k85 _ _ _ (⟨bd, be, bf⟩ : S85) [.bool bd, .string be, .string bf] from (k85_mkM _ _ _ (⟨bd, be, bf⟩ : S85) )) (Reps.none _ _))))
            intro v161 w116 ho117 hb hg_ hnew_
            clear hg_ hnew_
            (first | rw [← Ny160.out] at ho117 | (simp only [Int.reduceToNat] at ho117; rw [← Ny160.out] at ho117))
            have n0_ := Aside0.mk (Kd.R_below (by (with_reducible repeat (first | apply Kd.R_alloc | apply Kd.R_drewN | apply Kd.R_drew)); exact HO153.out) hb)
            have n1_ := Aside0.mk (Kd.R_lower ho117 (below_size (by repeat (first | (with_reducible first | exact HB.out | apply below_alloc | apply pw_below_drewN | apply below_drew1 | refine below_set ?_ aq.out | refine below_set ?_ av.out | refine below_set ?_ ay.out | refine below_set ?_ bg.out) | exact HB.out))))
            have n2_ := Aside0.mk (blk_below (g := ad) (o := .cells #[.string ah, .int .i64 ai, .int .i64 aj, .bool ak, .bool al, .int .i64 am, .int .i64 ac, .int .i64 ab, .int .i64 an] 27 (0, 0)) (by (with_reducible repeat (first | refine blk_drewN ?_ _ | refine blk_drew ?_ | refine blk_alloc ?_ _)); exact aa.out) hb)
            have n3_ := Aside0.mk (blk_below (g := af) (o := .cells #[.slice none 0 0, .slice none 0 0] 34 (0, 0)) (by (with_reducible repeat (first | refine blk_drewN ?_ _ | refine blk_drew ?_ | refine blk_alloc ?_ _)); exact ag.out) hb)
            have n4_ := Aside0.mk (blk_below (g := ao) (o := .cells #[.int .i64 (wrap64 (ac + 1)), .int .i64 (wrap64 (ab + 1))] 25 (0, 0)) (by (with_reducible repeat (first | refine blk_drewN ?_ _ | refine blk_drew ?_ | refine blk_alloc ?_ _)); exact ae.out) hb)
            have n5_ := Aside0.mk (blk_below (g := ax) (o := .cells #[.string a3, .int .i64 (wrap64 (ab + 1)), .int .i64 a4, .bool false] 23 (0, 0)) (by (with_reducible repeat (first | refine blk_drewN ?_ _ | refine blk_drew ?_ | refine blk_alloc ?_ _)); exact au.out) hb)
            have n6_ := Aside0.mk (below_step (by repeat (first | (with_reducible first | exact HB.out | apply below_alloc | apply pw_below_drewN | apply below_drew1 | refine below_set ?_ aq.out | refine below_set ?_ av.out | refine below_set ?_ ay.out | refine below_set ?_ bg.out) | exact HB.out)) hb)
            clear HO153
            clear aa
            clear ag
            clear ae
            clear au
            clear HB
            have HO153 := n0_
            have HO162 := n1_
            have aa := n2_
            have ag := n3_
            have ae := n4_
            have au := n5_
            have HB := n6_
            clear n0_ n1_ n2_ n3_ n4_ n5_ n6_
            clear hb ho117
            obtain ⟨Ao118, co118, eo118⟩ := Kd.R_slice HO162.out
            (first | subst eo118 | (injection eo118 with f1_ f2_ f3_; have f4_ := f1_.symm; have f5_ := f3_.symm; clear f1_ f2_ f3_; subst f4_; subst f5_))
            obtain ⟨Ao119, co119, eo119⟩ := Kd.R_slice HO153.out
            (first | subst eo119 | (injection eo119 with f1_ f2_ f3_; have f4_ := f1_.symm; have f5_ := f3_.symm; clear f1_ f2_ f3_; subst f4_; subst f5_))
            refine hK.out _ _ ⟨(blk_cell aa.out 0).trans rfl, (blk_cell aa.out 1).trans rfl, (blk_cell aa.out 2).trans rfl, (blk_cell aa.out 3).trans rfl, (blk_cell aa.out 4).trans rfl, (blk_cell aa.out 5).trans rfl, (blk_cell aa.out 6).trans rfl, (blk_cell aa.out 7).trans rfl, (blk_cell aa.out 8).trans rfl, (blk_cell au.out 0).trans rfl, (blk_cell au.out 1).trans rfl, (blk_cell au.out 2).trans rfl, (blk_cell au.out 3).trans rfl, (blk_cell ae.out 0).trans rfl, (blk_cell ae.out 1).trans rfl⟩ (fun hHeld => ?_)
            clear hK K
            refine norm_ (a' := ?_) ?_ ?_
            rotate_left
            ·
             show Act.put _ (some 87) _ = _
             simp only [Act.put, List.setIfInBounds_toArray, List.set_cons_zero, List.set_cons_succ, i64_w, i32_w]
             rfl
            refine pure_ (i := 12) (N := some 88) (v := ?_) (a' := ?_) #[true, true, true, true, true, true, true, true, true, true, true, true, true, false, false] rfl rfl (any_of HT_.out (by kernel_rfl)) (fun _ _ _ h => h) (Or.inl ⟨by rfl, ?_⟩) ?_ ?_
            rotate_left
            ·
             intro w'
             go_simp
             with_reducible rfl
            rotate_left
            ·
             simp only [Act.put, List.setIfInBounds_toArray, List.set_cons_zero, List.set_cons_succ, i64_w, i32_w]
             rfl
            refine one_ (i := 13) (N := none) #[true, true, true, true, true, true, true, true, true, true, true, true, true, true, false] rfl rfl (one_of HT_.out (by kernel_rfl)) (by decide) (fun K hK => ?_)
            have hs120 : w116.cell? ⟨af, 0, none⟩ = some (.slice none 0 0) := (blk_cell ag.out 0).trans rfl
            have hfs120 := blk_frozen ag.out 0
            have hns120_0 := ap.out
            have hns120_2 := aC.out
            have hns120_3 := aT.out
            have hms120_0 := aK.out
            have hms120_2 := aB.out
            have hms120_3 := bj.out
            have hs121 : w116.cell? ⟨af, 1, none⟩ = some (.slice none 0 0) := (blk_cell ag.out 1).trans rfl
            have hfs121 := blk_frozen ag.out 1
            have hns121_0 := ap.out
            have hns121_2 := aC.out
            have hns121_3 := aT.out
            have hms121_0 := aK.out
            have hms121_2 := aB.out
            have hms121_3 := bj.out
            refine skip_ (w1 := ?_) (by rfl) rfl ?_ ?_
            rotate_left
            ·
             go_simp
             rfl
            refine hK.out _ _ ⟨((cell_far (p := ⟨af, _, none⟩) ap.out _).trans (((cell_far (p := ⟨af, _, none⟩) ap.out _).trans (hHeld.1)))), ((cell_far (p := ⟨af, _, none⟩) ap.out _).trans (((cell_far (p := ⟨af, _, none⟩) ap.out _).trans (hHeld.2.1)))), ((cell_far (p := ⟨af, _, none⟩) ap.out _).trans (((cell_far (p := ⟨af, _, none⟩) ap.out _).trans (hHeld.2.2.1)))), ((cell_far (p := ⟨af, _, none⟩) ap.out _).trans (((cell_far (p := ⟨af, _, none⟩) ap.out _).trans (hHeld.2.2.2.1)))), ((cell_far (p := ⟨af, _, none⟩) ap.out _).trans (((cell_far (p := ⟨af, _, none⟩) ap.out _).trans (hHeld.2.2.2.2.1)))), ((cell_far (p := ⟨af, _, none⟩) ap.out _).trans (((cell_far (p := ⟨af, _, none⟩) ap.out _).trans (hHeld.2.2.2.2.2.1)))), ((cell_far (p := ⟨af, _, none⟩) ap.out _).trans (((cell_far (p := ⟨af, _, none⟩) ap.out _).trans (hHeld.2.2.2.2.2.2.1)))), ((cell_far (p := ⟨af, _, none⟩) ap.out _).trans (((cell_far (p := ⟨af, _, none⟩) ap.out _).trans (hHeld.2.2.2.2.2.2.2.1)))), ((cell_far (p := ⟨af, _, none⟩) ap.out _).trans (((cell_far (p := ⟨af, _, none⟩) ap.out _).trans (hHeld.2.2.2.2.2.2.2.2.1)))), ((cell_far (p := ⟨af, _, none⟩) aT.out _).trans (((cell_far (p := ⟨af, _, none⟩) aT.out _).trans (hHeld.2.2.2.2.2.2.2.2.2.1)))), ((cell_far (p := ⟨af, _, none⟩) aT.out _).trans (((cell_far (p := ⟨af, _, none⟩) aT.out _).trans (hHeld.2.2.2.2.2.2.2.2.2.2.1)))), ((cell_far (p := ⟨af, _, none⟩) aT.out _).trans (((cell_far (p := ⟨af, _, none⟩) aT.out _).trans (hHeld.2.2.2.2.2.2.2.2.2.2.2.1)))), ((cell_far (p := ⟨af, _, none⟩) aT.out _).trans (((cell_far (p := ⟨af, _, none⟩) aT.out _).trans (hHeld.2.2.2.2.2.2.2.2.2.2.2.2.1)))), ((cell_far (p := ⟨af, _, none⟩) aC.out _).trans (((cell_far (p := ⟨af, _, none⟩) aC.out _).trans (hHeld.2.2.2.2.2.2.2.2.2.2.2.2.2.1)))), ((cell_far (p := ⟨af, _, none⟩) aC.out _).trans (((cell_far (p := ⟨af, _, none⟩) aC.out _).trans (hHeld.2.2.2.2.2.2.2.2.2.2.2.2.2.2))))⟩ (fun hHeld => ?_)
            clear hK K
            refine pure_ (i := 14) (N := some 13) (v := ?_) (a' := ?_) #[true, true, true, true, true, true, true, true, true, true, true, true, true, true, true] rfl rfl (any_of HT_.out (by kernel_rfl)) (fun _ _ _ h => h) (Or.inl ⟨by rfl, ?_⟩) ?_ ?_
            rotate_left
            ·
             intro w'
             go_simp
             with_reducible rfl
            rotate_left
            ·
             simp only [Act.put, List.setIfInBounds_toArray, List.set_cons_zero, List.set_cons_succ, i64_w, i32_w]
             rfl
            refine done_ (done_of HT_.out (by kernel_rfl)) ?_
            try go_wp2
            refine bodyPost_ret (results_ct rfl _ _ af 34 #[.slice Ao119 aG.length co119, .slice Ao118 bw.length co118] (0, 0) _ rfl (by (with_reducible repeat (first | refine blk_drewN ?_ _ | refine blk_drew ?_ | refine blk_alloc ?_ _)); refine blk_put (cs := #[.slice Ao119 aG.length co119, .slice none 0 0]) ?_ 1 _ rfl; (with_reducible repeat (first | refine blk_drewN ?_ _ | refine blk_drew ?_ | refine blk_alloc ?_ _)); refine blk_put (cs := #[.slice none 0 0, .slice none 0 0]) ?_ 0 _ rfl; (with_reducible repeat (first | refine blk_drewN ?_ _ | refine blk_drew ?_ | refine blk_alloc ?_ _)); exact ag.out) Try.underlying34 rfl (by kernel_rfl)) rfl ?_
            exact ⟨_, _, by first | rfl | (simp [errW_none, errW_some] <;> rfl) | (simp [*, errW_none, errW_some] <;> rfl), by (with_reducible repeat (first | apply Kd.R_alloc | apply Kd.R_drewN | apply Kd.R_drew)); exact Kd.R_mono (Kd.R_far (p := ⟨af, 1, none⟩) (Kd.R_far (p := ⟨af, 0, none⟩) (Kd.R_types HO153.out ag.out (by decide)) (fun _ hk => hk.2) (.slice Ao119 aG.length co119)) (fun _ hk => hk.2) (.slice Ao118 bw.length co118)) (fun _ hk => trivial), by (with_reducible repeat (first | apply Kd.R_alloc | apply Kd.R_drewN | apply Kd.R_drew)); exact Kd.R_mono (Kd.R_far (p := ⟨af, 1, none⟩) (Kd.R_far (p := ⟨af, 0, none⟩) (Kd.R_types HO162.out ag.out (by decide)) (fun _ hk => hk.2) (.slice Ao119 aG.length co119)) (fun _ hk => hk.2) (.slice Ao118 bw.length co118)) (fun _ hk => trivial), by repeat (first | (with_reducible first | exact HB.out | apply below_alloc | apply pw_below_drewN | apply below_drew1 | refine below_set ?_ aq.out | refine below_set ?_ av.out | refine below_set ?_ ay.out | refine below_set ?_ bg.out) | exact HB.out)⟩
    ·
     replace c18 := Bool.eq_false_iff.mpr c18
     subst c18
     have H1 : (some (([] : List (S73)), ([] : List (S85)), 4)) = some (r1, r2, r3) := by rw [if_neg (show ¬ (false = true) by decide)] at H; exact H
     clear H
     have H := H1
     clear H1
     simp only [Option.some.injEq, Prod.mk.injEq] at H
     obtain ⟨rfl, rfl, rfl⟩ := H
     have gj := ap.out
     have gk := aK.out
     have gl : wc.cell? ⟨ad, 0, none⟩ = some (.string ah) := (blk_cell aa.out 0).trans rfl
     have gm : wc.cell? ⟨ad, 1, none⟩ = some (.int .i64 ai) := (blk_cell aa.out 1).trans rfl
     have gn : wc.cell? ⟨ad, 2, none⟩ = some (.int .i64 aj) := (blk_cell aa.out 2).trans rfl
     have gp : wc.cell? ⟨ad, 3, none⟩ = some (.bool ak) := (blk_cell aa.out 3).trans rfl
     have gq : wc.cell? ⟨ad, 4, none⟩ = some (.bool al) := (blk_cell aa.out 4).trans rfl
     have gr : wc.cell? ⟨ad, 5, none⟩ = some (.int .i64 am) := (blk_cell aa.out 5).trans rfl
     have gs : wc.cell? ⟨ad, 6, none⟩ = some (.int .i64 ac) := (blk_cell aa.out 6).trans rfl
     have gt : wc.cell? ⟨ad, 7, none⟩ = some (.int .i64 ab) := (blk_cell aa.out 7).trans rfl
     have gu : wc.cell? ⟨ad, 8, none⟩ = some (.int .i64 an) := (blk_cell aa.out 8).trans rfl
     have gv := blk_frozen aa.out 0
     have gw := blk_frozen aa.out 1
     have gx := blk_frozen aa.out 2
     have gy := blk_frozen aa.out 3
     have gz := blk_frozen aa.out 4
     have gA := blk_frozen aa.out 5
     have gB := blk_frozen aa.out 6
     have gC := blk_frozen aa.out 7
     have gD := blk_frozen aa.out 8
     go_wp2_with (first | ((with_reducible refine gate_callee (f := 29) rfl ?_); refine goesL_ (some 31) rfl rfl Try.func29 (by kernel_rfl) rfl #[.agg #[.string ah, .int .i64 ai, .int .i64 aj, .bool ak, .bool al, .int .i64 am, .int .i64 ac, .int .i64 ab, .int .i64 an]] rfl (by (try simp only [List.map_toArray, List.map_cons, List.map_nil]); first | done | rfl | (simp only [List.length_drop, List.length_take]; rfl)) ?_; (with_reducible refine (batonref20_May.calls kj6 ah ai aj ak al am ac ab an false _ A17.out).mono ?_); rintro e w124 ⟨rfl, hb⟩; refine ⟨_, rfl, ?_⟩; have n0_ := Aside0.mk (blk_below (g := ad) (o := .cells #[.string ah, .int .i64 ai, .int .i64 aj, .bool ak, .bool al, .int .i64 am, .int .i64 ac, .int .i64 ab, .int .i64 an] 27 (0, 0)) (by (with_reducible repeat (first | refine blk_drewN ?_ _ | refine blk_drew ?_ | refine blk_alloc ?_ _)); exact aa.out) hb); have n1_ := Aside0.mk (blk_below (g := af) (o := .cells #[.slice none 0 0, .slice none 0 0] 34 (0, 0)) (by (with_reducible repeat (first | refine blk_drewN ?_ _ | refine blk_drew ?_ | refine blk_alloc ?_ _)); exact ag.out) hb); have n2_ := Aside0.mk (below_step (by repeat (first | (with_reducible first | exact HB.out | apply below_alloc | apply pw_below_drewN | apply below_drew1 | refine below_set ?_ aq.out | refine below_set ?_ av.out) | exact HB.out)) hb); clear aa; clear ag; clear HB; have aa := n0_; have ag := n1_; have HB := n2_; clear n0_ n1_ n2_; (try clear hb); (try clear hb2); (try clear hk); (try clear hi); have gE : w124.cell? ⟨af, 0, none⟩ = some (.slice none 0 0) := (blk_cell ag.out 0).trans rfl; have gF : w124.cell? ⟨af, 1, none⟩ = some (.slice none 0 0) := (blk_cell ag.out 1).trans rfl; have gG := blk_frozen ag.out 0; have gH := blk_frozen ag.out 1))
     refine bodyPost_ret (results_ct rfl _ _ af 34 #[.slice none 0 0, .slice none 0 0] (0, 0) _ rfl (by (with_reducible repeat (first | refine blk_drewN ?_ _ | refine blk_drew ?_ | refine blk_alloc ?_ _)); refine blk_put (cs := #[.slice none 0 0, .slice none 0 0]) ?_ 1 _ rfl; (with_reducible repeat (first | refine blk_drewN ?_ _ | refine blk_drew ?_ | refine blk_alloc ?_ _)); refine blk_put (cs := #[.slice none 0 0, .slice none 0 0]) ?_ 0 _ rfl; (with_reducible repeat (first | refine blk_drewN ?_ _ | refine blk_drew ?_ | refine blk_alloc ?_ _)); exact ag.out) Try.underlying34 rfl (by kernel_rfl)) rfl ?_
     exact ⟨_, _, by first | rfl | (simp [errW_none, errW_some] <;> rfl) | (simp [*, errW_none, errW_some] <;> rfl), by first | exact Kd.R_nil _ _ _ _ _ | exact Kd.N_nil _ _ _ _ _ | exact Kd.V_nil _ _ _ _ _ | exact Kd.Q_nil _ _ _ _ _ | exact Kd.S_nil _ _ _ _ _, by first | exact Kd.R_nil _ _ _ _ _ | exact Kd.N_nil _ _ _ _ _ | exact Kd.V_nil _ _ _ _ _ | exact Kd.Q_nil _ _ _ _ _ | exact Kd.S_nil _ _ _ _ _, by repeat (first | (with_reducible first | exact HB.out | apply below_alloc | apply pw_below_drewN | apply below_drew1 | refine below_set ?_ aq.out | refine below_set ?_ av.out) | exact HB.out)⟩
end Go.Proofs.Ytobanhbjkomieaa.PEl
