import Derived.Test.YtobanhbjkomieaaPElx0Sv
import Derived.Test.YtobanhbjkomieaaPElx1Sv
import Derived.Test.YtobanhbjkomieaaPElx2Sv
import Derived.Test.YtobanhbjkomieaaPElx3Sv
import Derived.Test.YtobanhbjkomieaaPElx4Sv
namespace Go.Proofs.Ytobanhbjkomieaa.PEl
open Go.RowKit Go.Proofs.YtobanhbjkomieaaW.PrintWords Go.Proofs.YtobanhbjkomieaaW.PrintLast Go.Proofs.YtobanhbjkomieaaW.PrintMore
attribute [local go_sem] max2_int min2_int max_two min_two max_three min_three max_four min_four   -- for this text's walks alone
set_option linter.unusedVariables false
set_option linter.unusedSimpArgs false
attribute [local go_sem high] eqA73 eqA85
def batonref20_Sweep.j0 : Nat → ByteArray → ByteArray → Bool → ByteArray → Int → Int → Bool → Bool → Int → Int → Int → Int → Option ((List (S73)) × (List (S85)) × Int)
 | 0, _, _, _, _, _, _, _, _, _, _, _, _ => none
 | k + 1, x1, x2, x24, bO, bP, bQ, bR, bS, bT, bU, bV, bW => if x24 = true then (some (([] : List (S73)), ([] : List (S85)), 46)) else ((batonref20_conds.f bO bP bQ bR bS bT bU bV bW x1 x2 false).bind fun aJ => ((batonref11_Cluster.f x1 x2).bind fun aG => (some (aJ, (([(⟨true, aG, (⟨#[]⟩ : ByteArray)⟩ : S85)] : List (S85))), 0))))
def batonref20_Sweep.f (k : Nat) (ae : ByteArray) (af : Int) (ag : Int) (ac : Bool) (ad : Bool) (ah : Int) (ai : Int) (aj : Int) (ak : Int) (a1 : ByteArray) (a2 : ByteArray) : Option ((List (S73)) × (List (S85)) × Int) := (batonref20_wrong.f a1 a2 0).bind fun a6 => (if a6 = true then (some (([] : List (S73)), ([] : List (S85)), 1)) else ((batonref20_May.f k ae af ag ac ad ah ai aj ak).bind fun aL => (if aL = true then (if ad = true then (batonref20_Sweep.j0 k a1 a2 (!ac) ae af ag ac ad ah ai aj ak) else (batonref20_Sweep.j0 k a1 a2 true ae af ag ac ad ah ai aj ak)) else (some (([] : List (S73)), ([] : List (S85)), 4)))))
set_option maxHeartbeats 8000000 in
set_option maxRecDepth 100000 in
theorem batonref20_Sweep.calls (k : Nat) (ae : ByteArray) (af : Int) (ag : Int) (ac : Bool) (ad : Bool) (ah : Int) (ai : Int) (aj : Int) (ak : Int) (a1 : ByteArray) (a2 : ByteArray) (r1 : List (S73)) (r2 : List (S85)) (r3 : Int) (w : World) (h : batonref20_Sweep.f k ae af ag ac ad ah ai aj ak a1 a2 = some (r1, r2, r3)) :
  Calls Try.prog 37 #[.agg #[.string ae, .int .i64 af, .int .i64 ag, .bool ac, .bool ad, .int .i64 ah, .int .i64 ai, .int .i64 aj, .int .i64 ak], .string a1, .string a2] w fun e w' => ∃ v0_ v1_ : Value, e = .returned (.tuple #[.agg #[v0_, v1_], .int .i64 r3]) ∧ Kd.R k73 73 w' w.heap.size (fun _ => True) v0_ r1 ∧ Kd.R k85 85 w' w.heap.size (fun _ => True) v1_ r2 ∧ Below w.heap.size w w' := by
 have hu27 := Try.underlying27
 have hu34 := Try.underlying34
 have hu85 := Try.underlying85
 have HB := Aside0.mk (Below.refl w.heap.size w)
 have H : ((batonref20_wrong.f a1 a2 0).bind fun a6 => (if a6 = true then (some (([] : List (S73)), ([] : List (S85)), 1)) else ((batonref20_May.f k ae af ag ac ad ah ai aj ak).bind fun aL => (if aL = true then (if ad = true then (batonref20_Sweep.j0 k a1 a2 (!ac) ae af ag ac ad ah ai aj ak) else (batonref20_Sweep.j0 k a1 a2 true ae af ag ac ad ah ai aj ak)) else (some (([] : List (S73)), ([] : List (S85)), 4)))))) = some (r1, r2, r3) := h
 clear h
 replace H := Option.bind_eq_some_iff.mp H
 obtain ⟨a6, A40, H⟩ := H
 replace H : (if a6 = true then (some (([] : List (S73)), ([] : List (S85)), 1)) else ((batonref20_May.f k ae af ag ac ad ah ai aj ak).bind fun aL => (if aL = true then (if ad = true then (batonref20_Sweep.j0 k a1 a2 (!ac) ae af ag ac ad ah ai aj ak) else (batonref20_Sweep.j0 k a1 a2 true ae af ag ac ad ah ai aj ak)) else (some (([] : List (S73)), ([] : List (S85)), 4))))) = some (r1, r2, r3) := H
 have A4 := Aside0.mk A40
 clear A40
 by_cases c5 : a6 = true
 ·
  subst c5
  have H1 : (some (([] : List (S73)), ([] : List (S85)), 1)) = some (r1, r2, r3) := by rw [if_pos rfl] at H; exact H
  clear H
  have H := H1
  clear H1
  simp only [Option.some.injEq, Prod.mk.injEq] at H
  obtain ⟨rfl, rfl, rfl⟩ := H
  go_enter Try.func37, Try.ntmps37
  go_wp2_with (first | ((with_reducible refine gate_dst (N := 3) rfl ?_); refine box_event ?hg (N := 3) ?hd (cs := #[.string ae, .int .i64 af, .int .i64 ag, .bool ac, .bool ad, .int .i64 ah, .int .i64 ai, .int .i64 aj, .int .i64 ak]) (t := 27) ?hr ?_; (case hd => rfl); (case hg => rfl); (case hr => first | (go_simp; done) | (go_simp; rfl)); intro ab hg w6 hbox hb; have n0_ := Aside0.mk (below_step (by repeat (first | (with_reducible first | exact HB.out | apply below_alloc | apply pw_below_drewN | apply below_drew1) | exact HB.out)) hb); have n1_ := Aside0.mk (hbox); have n2_ := Aside0.mk ((by rw [hg]; exact (below_size (by repeat (first | (with_reducible first | exact HB.out | apply below_alloc | apply pw_below_drewN | apply below_drew1) | exact HB.out))) : w.heap.size ≤ ab)); have n3_ := Aside0.mk ((by rw [hg]; exact (below_size (by repeat (first | (with_reducible first | exact HB.out | apply below_alloc | apply pw_below_drewN | apply below_drew1) | exact HB.out))) : w.heap.size ≤ ab)); clear HB; have HB := n0_; have aa := n1_; have GW197 := n2_; have aA := n3_; clear n0_ n1_ n2_ n3_; clear hb hbox hg) | ((with_reducible refine gate_dst (N := 6) rfl ?_); refine box_event ?hg (N := 6) ?hd (cs := #[.slice none 0 0, .slice none 0 0]) (t := 34) ?hr ?_; (case hd => rfl); (case hg => rfl); (case hr => first | (go_simp; done) | (go_simp; rfl)); intro av hg w7 hbox hb; have n0_ := Aside0.mk (blk_below (g := ab) (o := .cells #[.string ae, .int .i64 af, .int .i64 ag, .bool ac, .bool ad, .int .i64 ah, .int .i64 ai, .int .i64 aj, .int .i64 ak] 27 (0, 0)) (by (with_reducible repeat (first | refine blk_drewN ?_ _ | refine blk_drew ?_ | refine blk_alloc ?_ _)); exact aa.out) hb); have n1_ := Aside0.mk (below_step (by repeat (first | (with_reducible first | exact HB.out | apply below_alloc | apply pw_below_drewN | apply below_drew1 | refine below_set ?_ aA.out) | exact HB.out)) hb); have n2_ := Aside0.mk (hbox); have n3_ := Aside0.mk ((by rw [hg]; exact (below_size (by repeat (first | (with_reducible first | exact HB.out | apply below_alloc | apply pw_below_drewN | apply below_drew1 | refine below_set ?_ aA.out) | exact HB.out))) : w.heap.size ≤ av)); have n4_ := Aside0.mk ((by rw [hg]; exact (below_size (by repeat (first | (with_reducible first | exact HB.out | apply below_alloc | apply pw_below_drewN | apply below_drew1 | refine below_set ?_ aA.out) | exact HB.out))) : w.heap.size ≤ av)); have n5_ := Aside0.mk ((by rw [hg]; exact Nat.ne_of_lt (blk_lt (g := ab) (o := .cells #[.string ae, .int .i64 af, .int .i64 ag, .bool ac, .bool ad, .int .i64 ah, .int .i64 ai, .int .i64 aj, .int .i64 ak] 27 (0, 0)) (by (with_reducible repeat (first | refine blk_drewN ?_ _ | refine blk_drew ?_ | refine blk_alloc ?_ _)); exact aa.out)) : ab ≠ av)); have n6_ := Aside0.mk ((by rw [hg]; exact Nat.ne_of_gt (blk_lt (g := ab) (o := .cells #[.string ae, .int .i64 af, .int .i64 ag, .bool ac, .bool ad, .int .i64 ah, .int .i64 ai, .int .i64 aj, .int .i64 ak] 27 (0, 0)) (by (with_reducible repeat (first | refine blk_drewN ?_ _ | refine blk_drew ?_ | refine blk_alloc ?_ _)); exact aa.out)) : av ≠ ab)); clear aa; clear HB; have aa := n0_; have HB := n1_; have ao := n2_; have GW198 := n3_; have aF := n4_; have aQ := n5_; have aR := n6_; clear n0_ n1_ n2_ n3_ n4_ n5_ n6_; clear hb hbox hg) | ((with_reducible refine gate_callee (f := 109) rfl ?_); refine goesL_ (some 10) rfl rfl Try.func109 (by kernel_rfl) rfl #[.string a1, .string a2, .int .i64 0] rfl (by (try simp only [List.map_toArray, List.map_cons, List.map_nil]); first | done | rfl | (simp only [List.length_drop, List.length_take]; rfl)) ?_; (with_reducible refine (batonref20_wrong.calls a1 a2 0 true _ A4.out).mono ?_); rintro e w' ⟨rfl, ⟨nd, rfl⟩⟩; refine ⟨_, rfl, ?_⟩; (try (rw [drewN_self w7]; generalize hq_ : World.drewN w7 _ = w7; have n0_ : Aside0 (w7.heap[ab]? = some (.cells #[.string ae, .int .i64 af, .int .i64 ag, .bool ac, .bool ad, .int .i64 ah, .int .i64 ai, .int .i64 aj, .int .i64 ak] 27 (0, 0))) := ⟨by rw [← hq_]; exact (by (with_reducible repeat (first | refine blk_drewN ?_ _ | refine blk_drew ?_ | refine blk_alloc ?_ _)); exact aa.out)⟩; have n1_ : Aside0 (w7.heap[av]? = some (.cells #[.slice none 0 0, .slice none 0 0] 34 (0, 0))) := ⟨by rw [← hq_]; exact (by (with_reducible repeat (first | refine blk_drewN ?_ _ | refine blk_drew ?_ | refine blk_alloc ?_ _)); exact ao.out)⟩; have n2_ : Aside0 (Below w.heap.size w w7) := ⟨by rw [← hq_]; exact (by repeat (first | (with_reducible first | exact HB.out | apply below_alloc | apply pw_below_drewN | apply below_drew1 | refine below_set ?_ aA.out | refine below_set ?_ aF.out) | exact HB.out))⟩; clear aa ao HB hq_; have aa := n0_; have ao := n1_; have HB := n2_; clear n0_ n1_ n2_)); have cY := aR.out; have cZ := aQ.out; have a7 : w7.cell? ⟨av, 0, none⟩ = some (.slice none 0 0) := (blk_cell ao.out 0).trans rfl; have a8 : w7.cell? ⟨av, 1, none⟩ = some (.slice none 0 0) := (blk_cell ao.out 1).trans rfl; have a9 := blk_frozen ao.out 0; have ba := blk_frozen ao.out 1))
  refine bodyPost_ret (results_ct rfl _ _ av 34 #[.slice none 0 0, .slice none 0 0] (0, 0) _ rfl (by (with_reducible repeat (first | refine blk_drewN ?_ _ | refine blk_drew ?_ | refine blk_alloc ?_ _)); refine blk_put (cs := #[.slice none 0 0, .slice none 0 0]) ?_ 1 _ rfl; (with_reducible repeat (first | refine blk_drewN ?_ _ | refine blk_drew ?_ | refine blk_alloc ?_ _)); refine blk_put (cs := #[.slice none 0 0, .slice none 0 0]) ?_ 0 _ rfl; (with_reducible repeat (first | refine blk_drewN ?_ _ | refine blk_drew ?_ | refine blk_alloc ?_ _)); exact ao.out) Try.underlying34 rfl (by kernel_rfl)) rfl ?_
  exact ⟨_, _, by first | rfl | (simp [errW_none, errW_some] <;> rfl) | (simp [*, errW_none, errW_some] <;> rfl), by first | exact Kd.R_nil _ _ _ _ _ | exact Kd.N_nil _ _ _ _ _ | exact Kd.V_nil _ _ _ _ _ | exact Kd.Q_nil _ _ _ _ _ | exact Kd.S_nil _ _ _ _ _, by first | exact Kd.R_nil _ _ _ _ _ | exact Kd.N_nil _ _ _ _ _ | exact Kd.V_nil _ _ _ _ _ | exact Kd.Q_nil _ _ _ _ _ | exact Kd.S_nil _ _ _ _ _, by repeat (first | (with_reducible first | exact HB.out | apply below_alloc | apply pw_below_drewN | apply below_drew1 | refine below_set ?_ aA.out | refine below_set ?_ aF.out) | exact HB.out)⟩
 ·
  replace c5 := Bool.eq_false_iff.mpr c5
  subst c5
  have H1 : ((batonref20_May.f k ae af ag ac ad ah ai aj ak).bind fun aL => (if aL = true then (if ad = true then (batonref20_Sweep.j0 k a1 a2 (!ac) ae af ag ac ad ah ai aj ak) else (batonref20_Sweep.j0 k a1 a2 true ae af ag ac ad ah ai aj ak)) else (some (([] : List (S73)), ([] : List (S85)), 4)))) = some (r1, r2, r3) := by rw [if_neg (show ¬ (false = true) by decide)] at H; exact H
  clear H
  have H := H1
  clear H1
  replace H := Option.bind_eq_some_iff.mp H
  obtain ⟨aL, A100, H⟩ := H
  replace H : (if aL = true then (if ad = true then (batonref20_Sweep.j0 k a1 a2 (!ac) ae af ag ac ad ah ai aj ak) else (batonref20_Sweep.j0 k a1 a2 true ae af ag ac ad ah ai aj ak)) else (some (([] : List (S73)), ([] : List (S85)), 4))) = some (r1, r2, r3) := H
  have A10 := Aside0.mk A100
  clear A100
  by_cases c11 : aL = true
  ·
   subst c11
   have H1 : (if ad = true then (batonref20_Sweep.j0 k a1 a2 (!ac) ae af ag ac ad ah ai aj ak) else (batonref20_Sweep.j0 k a1 a2 true ae af ag ac ad ah ai aj ak)) = some (r1, r2, r3) := by rw [if_pos rfl] at H; exact H
   clear H
   have H := H1
   clear H1
   have be := Aside0.mk H
   clear H
   go_enter Try.func37, Try.ntmps37
   go_upto_region 5 with (first | ((with_reducible refine gate_dst (N := 3) rfl ?_); refine box_event ?hg (N := 3) ?hd (cs := #[.string ae, .int .i64 af, .int .i64 ag, .bool ac, .bool ad, .int .i64 ah, .int .i64 ai, .int .i64 aj, .int .i64 ak]) (t := 27) ?hr ?_; (case hd => rfl); (case hg => rfl); (case hr => first | (go_simp; done) | (go_simp; rfl)); intro ab hg w13 hbox hb; have n0_ := Aside0.mk (below_step (by repeat (first | (with_reducible first | exact HB.out | apply below_alloc | apply pw_below_drewN | apply below_drew1) | exact HB.out)) hb); have n1_ := Aside0.mk (hbox); have n2_ := Aside0.mk ((by rw [hg]; exact (below_size (by repeat (first | (with_reducible first | exact HB.out | apply below_alloc | apply pw_below_drewN | apply below_drew1) | exact HB.out))) : w.heap.size ≤ ab)); have n3_ := Aside0.mk ((by rw [hg]; exact (below_size (by repeat (first | (with_reducible first | exact HB.out | apply below_alloc | apply pw_below_drewN | apply below_drew1) | exact HB.out))) : w.heap.size ≤ ab)); clear HB; have HB := n0_; have aa := n1_; have GW197 := n2_; have aA := n3_; clear n0_ n1_ n2_ n3_; clear hb hbox hg) | ((with_reducible refine gate_dst (N := 6) rfl ?_); refine box_event ?hg (N := 6) ?hd (cs := #[.slice none 0 0, .slice none 0 0]) (t := 34) ?hr ?_; (case hd => rfl); (case hg => rfl); (case hr => first | (go_simp; done) | (go_simp; rfl)); intro av hg w14 hbox hb; have n0_ := Aside0.mk (blk_below (g := ab) (o := .cells #[.string ae, .int .i64 af, .int .i64 ag, .bool ac, .bool ad, .int .i64 ah, .int .i64 ai, .int .i64 aj, .int .i64 ak] 27 (0, 0)) (by (with_reducible repeat (first | refine blk_drewN ?_ _ | refine blk_drew ?_ | refine blk_alloc ?_ _)); exact aa.out) hb); have n1_ := Aside0.mk (below_step (by repeat (first | (with_reducible first | exact HB.out | apply below_alloc | apply pw_below_drewN | apply below_drew1 | refine below_set ?_ aA.out) | exact HB.out)) hb); have n2_ := Aside0.mk (hbox); have n3_ := Aside0.mk ((by rw [hg]; exact (below_size (by repeat (first | (with_reducible first | exact HB.out | apply below_alloc | apply pw_below_drewN | apply below_drew1 | refine below_set ?_ aA.out) | exact HB.out))) : w.heap.size ≤ av)); have n4_ := Aside0.mk ((by rw [hg]; exact (below_size (by repeat (first | (with_reducible first | exact HB.out | apply below_alloc | apply pw_below_drewN | apply below_drew1 | refine below_set ?_ aA.out) | exact HB.out))) : w.heap.size ≤ av)); have n5_ := Aside0.mk ((by rw [hg]; exact Nat.ne_of_lt (blk_lt (g := ab) (o := .cells #[.string ae, .int .i64 af, .int .i64 ag, .bool ac, .bool ad, .int .i64 ah, .int .i64 ai, .int .i64 aj, .int .i64 ak] 27 (0, 0)) (by (with_reducible repeat (first | refine blk_drewN ?_ _ | refine blk_drew ?_ | refine blk_alloc ?_ _)); exact aa.out)) : ab ≠ av)); have n6_ := Aside0.mk ((by rw [hg]; exact Nat.ne_of_gt (blk_lt (g := ab) (o := .cells #[.string ae, .int .i64 af, .int .i64 ag, .bool ac, .bool ad, .int .i64 ah, .int .i64 ai, .int .i64 aj, .int .i64 ak] 27 (0, 0)) (by (with_reducible repeat (first | refine blk_drewN ?_ _ | refine blk_drew ?_ | refine blk_alloc ?_ _)); exact aa.out)) : av ≠ ab)); clear aa; clear HB; have aa := n0_; have HB := n1_; have ao := n2_; have GW198 := n3_; have aF := n4_; have aQ := n5_; have aR := n6_; clear n0_ n1_ n2_ n3_ n4_ n5_ n6_; clear hb hbox hg) | ((with_reducible refine gate_callee (f := 109) rfl ?_); refine goesL_ (some 10) rfl rfl Try.func109 (by kernel_rfl) rfl #[.string a1, .string a2, .int .i64 0] rfl (by (try simp only [List.map_toArray, List.map_cons, List.map_nil]); first | done | rfl | (simp only [List.length_drop, List.length_take]; rfl)) ?_; (with_reducible refine (batonref20_wrong.calls a1 a2 0 false _ A4.out).mono ?_); rintro e w' ⟨rfl, ⟨nd, rfl⟩⟩; refine ⟨_, rfl, ?_⟩; have c0 := aQ.out; have c4 := aR.out; have bX : w14.cell? ⟨ab, 0, none⟩ = some (.string ae) := (blk_cell aa.out 0).trans rfl; have bY : w14.cell? ⟨ab, 1, none⟩ = some (.int .i64 af) := (blk_cell aa.out 1).trans rfl; have bZ : w14.cell? ⟨ab, 2, none⟩ = some (.int .i64 ag) := (blk_cell aa.out 2).trans rfl; have b0 : w14.cell? ⟨ab, 3, none⟩ = some (.bool ac) := (blk_cell aa.out 3).trans rfl; have b1 : w14.cell? ⟨ab, 4, none⟩ = some (.bool ad) := (blk_cell aa.out 4).trans rfl; have b2 : w14.cell? ⟨ab, 5, none⟩ = some (.int .i64 ah) := (blk_cell aa.out 5).trans rfl; have b3 : w14.cell? ⟨ab, 6, none⟩ = some (.int .i64 ai) := (blk_cell aa.out 6).trans rfl; have b4 : w14.cell? ⟨ab, 7, none⟩ = some (.int .i64 aj) := (blk_cell aa.out 7).trans rfl; have b5 : w14.cell? ⟨ab, 8, none⟩ = some (.int .i64 ak) := (blk_cell aa.out 8).trans rfl; have b6 := blk_frozen aa.out 0; have b7 := blk_frozen aa.out 1; have b8 := blk_frozen aa.out 2; have b9 := blk_frozen aa.out 3; have ca := blk_frozen aa.out 4; have cb := blk_frozen aa.out 5; have cc := blk_frozen aa.out 6; have cd := blk_frozen aa.out 7; have ce := blk_frozen aa.out 8) | ((with_reducible refine gate_callee (f := 29) rfl ?_); refine goesL_ (some 13) rfl rfl Try.func29 (by kernel_rfl) rfl #[.agg #[.string ae, .int .i64 af, .int .i64 ag, .bool ac, .bool ad, .int .i64 ah, .int .i64 ai, .int .i64 aj, .int .i64 ak]] rfl (by (try simp only [List.map_toArray, List.map_cons, List.map_nil]); first | done | rfl | (simp only [List.length_drop, List.length_take]; rfl)) ?_; (with_reducible refine (batonref20_May.calls k ae af ag ac ad ah ai aj ak true _ A10.out).mono ?_); rintro e w17 ⟨rfl, hb⟩; refine ⟨_, rfl, ?_⟩; have n0_ := Aside0.mk (blk_below (g := ab) (o := .cells #[.string ae, .int .i64 af, .int .i64 ag, .bool ac, .bool ad, .int .i64 ah, .int .i64 ai, .int .i64 aj, .int .i64 ak] 27 (0, 0)) (by (with_reducible repeat (first | refine blk_drewN ?_ _ | refine blk_drew ?_ | refine blk_alloc ?_ _)); exact aa.out) hb); have n1_ := Aside0.mk (blk_below (g := av) (o := .cells #[.slice none 0 0, .slice none 0 0] 34 (0, 0)) (by (with_reducible repeat (first | refine blk_drewN ?_ _ | refine blk_drew ?_ | refine blk_alloc ?_ _)); exact ao.out) hb); have n2_ := Aside0.mk (below_step (by repeat (first | (with_reducible first | exact HB.out | apply below_alloc | apply pw_below_drewN | apply below_drew1 | refine below_set ?_ aA.out | refine below_set ?_ aF.out) | exact HB.out)) hb); clear aa; clear ao; clear HB; have aa := n0_; have ao := n1_; have HB := n2_; clear n0_ n1_ n2_; (try clear hb); (try clear hb2); (try clear hk); (try clear hi)))
   (try simp only [Act.put, List.setIfInBounds_toArray, List.set_cons_zero, List.set_cons_succ])
   go_cut [24] (fun v24 wc => ∃ (kq : Nat) (bb : Bool), v24 = .bool bb ∧ Aside0 (batonref20_Sweep.j0 kq a1 a2 bb ae af ag ac ad ah ai aj ak = some (r1, r2, r3)) ∧ Aside0 (kq ≤ k) ∧ Aside0 (wc.heap[ab]? = some (.cells #[.string ae, .int .i64 af, .int .i64 ag, .bool ac, .bool ad, .int .i64 ah, .int .i64 ai, .int .i64 aj, .int .i64 ak] 27 (0, 0))) ∧ Aside0 (wc.heap[av]? = some (.cells #[(.slice none 0 0), (.slice none 0 0)] 34 (0, 0))) ∧ Aside0 (Below w.heap.size w wc))
   case first =>
    have H := be.out
    clear be
    by_cases c18 : ad = true
    ·
     subst c18
     have H1 : (batonref20_Sweep.j0 k a1 a2 (!ac) ae af ag ac true ah ai aj ak) = some (r1, r2, r3) := by rw [if_pos rfl] at H; exact H
     clear H
     have H := H1
     clear H1
     have H' := Aside0.mk H
     clear H
     have c9 := aQ.out
     have da := aR.out
     have bf : w17.cell? ⟨ab, 0, none⟩ = some (.string ae) := (blk_cell aa.out 0).trans rfl
     have bg : w17.cell? ⟨ab, 1, none⟩ = some (.int .i64 af) := (blk_cell aa.out 1).trans rfl
     have cf : w17.cell? ⟨ab, 2, none⟩ = some (.int .i64 ag) := (blk_cell aa.out 2).trans rfl
     have cg : w17.cell? ⟨ab, 3, none⟩ = some (.bool ac) := (blk_cell aa.out 3).trans rfl
     have ch : w17.cell? ⟨ab, 4, none⟩ = some (.bool true) := (blk_cell aa.out 4).trans rfl
     have ci : w17.cell? ⟨ab, 5, none⟩ = some (.int .i64 ah) := (blk_cell aa.out 5).trans rfl
     have cj : w17.cell? ⟨ab, 6, none⟩ = some (.int .i64 ai) := (blk_cell aa.out 6).trans rfl
     have ck : w17.cell? ⟨ab, 7, none⟩ = some (.int .i64 aj) := (blk_cell aa.out 7).trans rfl
     have cl : w17.cell? ⟨ab, 8, none⟩ = some (.int .i64 ak) := (blk_cell aa.out 8).trans rfl
     have bh := blk_frozen aa.out 0
     have bi := blk_frozen aa.out 1
     have cm := blk_frozen aa.out 2
     have cn := blk_frozen aa.out 3
     have co := blk_frozen aa.out 4
     have cp := blk_frozen aa.out 5
     have cq := blk_frozen aa.out 6
     have cr := blk_frozen aa.out 7
     have ct := blk_frozen aa.out 8
     go_wp2
     go_meet
     case rel => exact ⟨_, (!ac), (by first | rfl | (simp; done) | (simp [*]; done)), H', ⟨by first | omega | exact Nat.le_refl _⟩, ⟨by (with_reducible repeat (first | refine blk_drewN ?_ _ | refine blk_drew ?_ | refine blk_alloc ?_ _)); exact aa.out⟩, ⟨by (with_reducible repeat (first | refine blk_drewN ?_ _ | refine blk_drew ?_ | refine blk_alloc ?_ _)); exact ao.out⟩, ⟨by repeat (first | (with_reducible first | exact HB.out | apply below_alloc | apply pw_below_drewN | apply below_drew1 | refine below_set ?_ aA.out | refine below_set ?_ aF.out) | exact HB.out)⟩⟩
    ·
     replace c18 := Bool.eq_false_iff.mpr c18
     subst c18
     have H1 : (batonref20_Sweep.j0 k a1 a2 true ae af ag ac false ah ai aj ak) = some (r1, r2, r3) := by rw [if_neg (show ¬ (false = true) by decide)] at H; exact H
     clear H
     have H := H1
     clear H1
     have H' := Aside0.mk H
     clear H
     have cu := aQ.out
     have cv := aR.out
     have bj : w17.cell? ⟨ab, 0, none⟩ = some (.string ae) := (blk_cell aa.out 0).trans rfl
     have bk : w17.cell? ⟨ab, 1, none⟩ = some (.int .i64 af) := (blk_cell aa.out 1).trans rfl
     have cw : w17.cell? ⟨ab, 2, none⟩ = some (.int .i64 ag) := (blk_cell aa.out 2).trans rfl
     have cx : w17.cell? ⟨ab, 3, none⟩ = some (.bool ac) := (blk_cell aa.out 3).trans rfl
     have cy : w17.cell? ⟨ab, 4, none⟩ = some (.bool false) := (blk_cell aa.out 4).trans rfl
     have cz : w17.cell? ⟨ab, 5, none⟩ = some (.int .i64 ah) := (blk_cell aa.out 5).trans rfl
     have cA : w17.cell? ⟨ab, 6, none⟩ = some (.int .i64 ai) := (blk_cell aa.out 6).trans rfl
     have cB : w17.cell? ⟨ab, 7, none⟩ = some (.int .i64 aj) := (blk_cell aa.out 7).trans rfl
     have cC : w17.cell? ⟨ab, 8, none⟩ = some (.int .i64 ak) := (blk_cell aa.out 8).trans rfl
     have bl := blk_frozen aa.out 0
     have bm := blk_frozen aa.out 1
     have cD := blk_frozen aa.out 2
     have cE := blk_frozen aa.out 3
     have cF := blk_frozen aa.out 4
     have cG := blk_frozen aa.out 5
     have cH := blk_frozen aa.out 6
     have cI := blk_frozen aa.out 7
     have cJ := blk_frozen aa.out 8
     go_wp2
     go_meet
     case rel => exact ⟨_, (true), (by first | rfl | (simp; done) | (simp [*]; done)), H', ⟨by first | omega | exact Nat.le_refl _⟩, ⟨by (with_reducible repeat (first | refine blk_drewN ?_ _ | refine blk_drew ?_ | refine blk_alloc ?_ _)); exact aa.out⟩, ⟨by (with_reducible repeat (first | refine blk_drewN ?_ _ | refine blk_drew ?_ | refine blk_alloc ?_ _)); exact ao.out⟩, ⟨by repeat (first | (with_reducible first | exact HB.out | apply below_alloc | apply pw_below_drewN | apply below_drew1 | refine below_set ?_ aA.out | refine below_set ?_ aF.out) | exact HB.out)⟩⟩
   case rest =>
    clear be
    try clear c1
    try clear c2
    try clear p2
    try clear c3
    try clear c5
    try clear c8
    try clear c10
    try clear c11
    try clear c15
    try clear c18
    try clear c19
    try clear c21
    try clear bX
    try clear bY
    try clear bZ
    try clear b0
    try clear b1
    try clear b2
    try clear b3
    try clear b4
    try clear b5
    try clear bf
    try clear bg
    try clear cf
    try clear cg
    try clear ch
    try clear ci
    try clear cj
    try clear ck
    try clear cl
    try clear bj
    try clear bk
    try clear cw
    try clear cx
    try clear cy
    try clear cz
    try clear cA
    try clear cB
    try clear cC
    try clear a7
    try clear a8
    try clear b6
    try clear b7
    try clear b8
    try clear b9
    try clear ca
    try clear cb
    try clear cc
    try clear cd
    try clear ce
    try clear bh
    try clear bi
    try clear cm
    try clear cn
    try clear co
    try clear cp
    try clear cq
    try clear cr
    try clear ct
    try clear bl
    try clear bm
    try clear cD
    try clear cE
    try clear cF
    try clear cG
    try clear cH
    try clear cI
    try clear cJ
    try clear a9
    try clear ba
    obtain ⟨kq, bb, rfl, HA, HJ11, aa, ao, HB⟩ := hcut
    cases kq with
    | zero => exact absurd HA.out (by simp [batonref20_Sweep.j0])
    | succ kj11 =>
     have H := HA.out
     clear HA
     simp only [batonref20_Sweep.j0] at H
     by_cases c23 : bb = true
     ·
      subst c23
      have H1 : (some (([] : List (S73)), ([] : List (S85)), 46)) = some (r1, r2, r3) := by rw [if_pos rfl] at H; exact H
      clear H
      have H := H1
      clear H1
      simp only [Option.some.injEq, Prod.mk.injEq] at H
      obtain ⟨rfl, rfl, rfl⟩ := H
      have cK := aR.out
      have cL := aQ.out
      have bC : wc.cell? ⟨av, 0, none⟩ = some (.slice none 0 0) := (blk_cell ao.out 0).trans rfl
      have bD : wc.cell? ⟨av, 1, none⟩ = some (.slice none 0 0) := (blk_cell ao.out 1).trans rfl
      have bE := blk_frozen ao.out 0
      have bF := blk_frozen ao.out 1
      go_wp2
      refine bodyPost_ret (results_ct rfl _ _ av 34 #[.slice none 0 0, .slice none 0 0] (0, 0) _ rfl (by (with_reducible repeat (first | refine blk_drewN ?_ _ | refine blk_drew ?_ | refine blk_alloc ?_ _)); refine blk_put (cs := #[.slice none 0 0, .slice none 0 0]) ?_ 1 _ rfl; (with_reducible repeat (first | refine blk_drewN ?_ _ | refine blk_drew ?_ | refine blk_alloc ?_ _)); refine blk_put (cs := #[.slice none 0 0, .slice none 0 0]) ?_ 0 _ rfl; (with_reducible repeat (first | refine blk_drewN ?_ _ | refine blk_drew ?_ | refine blk_alloc ?_ _)); exact ao.out) Try.underlying34 rfl (by kernel_rfl)) rfl ?_
      exact ⟨_, _, by first | rfl | (simp [errW_none, errW_some] <;> rfl) | (simp [*, errW_none, errW_some] <;> rfl), by first | exact Kd.R_nil _ _ _ _ _ | exact Kd.N_nil _ _ _ _ _ | exact Kd.V_nil _ _ _ _ _ | exact Kd.Q_nil _ _ _ _ _ | exact Kd.S_nil _ _ _ _ _, by first | exact Kd.R_nil _ _ _ _ _ | exact Kd.N_nil _ _ _ _ _ | exact Kd.V_nil _ _ _ _ _ | exact Kd.Q_nil _ _ _ _ _ | exact Kd.S_nil _ _ _ _ _, by repeat (first | (with_reducible first | exact HB.out | apply below_alloc | apply pw_below_drewN | apply below_drew1 | refine below_set ?_ aA.out | refine below_set ?_ aF.out) | exact HB.out)⟩
     ·
      replace c23 := Bool.eq_false_iff.mpr c23
      subst c23
      have H1 : ((batonref20_conds.f ae af ag ac ad ah ai aj ak a1 a2 false).bind fun aJ => ((batonref11_Cluster.f a1 a2).bind fun aG => (some (aJ, (([(⟨true, aG, (⟨#[]⟩ : ByteArray)⟩ : S85)] : List (S85))), 0)))) = some (r1, r2, r3) := by rw [if_neg (show ¬ (false = true) by decide)] at H; exact H
      clear H
      have H := H1
      clear H1
      replace H := Option.bind_eq_some_iff.mp H
      obtain ⟨aJ, A260, H⟩ := H
      replace H : ((batonref11_Cluster.f a1 a2).bind fun aG => (some (aJ, (([(⟨true, aG, (⟨#[]⟩ : ByteArray)⟩ : S85)] : List (S85))), 0))) = some (r1, r2, r3) := H
      have A26 := Aside0.mk A260
      clear A260
      replace H := Option.bind_eq_some_iff.mp H
      obtain ⟨aG, A270, H⟩ := H
      replace H : (some (aJ, (([(⟨true, aG, (⟨#[]⟩ : ByteArray)⟩ : S85)] : List (S85))), 0)) = some (r1, r2, r3) := H
      have A27 := Aside0.mk A270
      clear A270
      obtain ⟨bc, hy205⟩ : ∃ y_ : List (S85), y_ = (([(⟨true, aG, (⟨#[]⟩ : ByteArray)⟩ : S85)] : List (S85))) := ⟨_, rfl⟩
      replace H : (some (aJ, bc, 0)) = some (r1, r2, r3) := by first | (rw [hy205]; with_reducible exact H) | (have H2_ := (Option.bind_some _ _).symm.trans H; rw [hy205]; with_reducible exact H2_) | (have H2_ := (Option.bind_some _ _).symm.trans H; with_reducible exact H2_) | with_reducible exact H | (rw [hy205]; exact H) | exact H
      have Ny205 := Aside0.mk hy205
      clear hy205
      simp only [Option.some.injEq, Prod.mk.injEq] at H
      obtain ⟨rfl, rfl, rfl⟩ := H
      have db := aQ.out
      have dc := aR.out
      have dd : wc.cell? ⟨ab, 0, none⟩ = some (.string ae) := (blk_cell aa.out 0).trans rfl
      have de : wc.cell? ⟨ab, 1, none⟩ = some (.int .i64 af) := (blk_cell aa.out 1).trans rfl
      have df : wc.cell? ⟨ab, 2, none⟩ = some (.int .i64 ag) := (blk_cell aa.out 2).trans rfl
      have dg : wc.cell? ⟨ab, 3, none⟩ = some (.bool ac) := (blk_cell aa.out 3).trans rfl
      have dh : wc.cell? ⟨ab, 4, none⟩ = some (.bool ad) := (blk_cell aa.out 4).trans rfl
      have di : wc.cell? ⟨ab, 5, none⟩ = some (.int .i64 ah) := (blk_cell aa.out 5).trans rfl
      have dj : wc.cell? ⟨ab, 6, none⟩ = some (.int .i64 ai) := (blk_cell aa.out 6).trans rfl
      have dk : wc.cell? ⟨ab, 7, none⟩ = some (.int .i64 aj) := (blk_cell aa.out 7).trans rfl
      have dl : wc.cell? ⟨ab, 8, none⟩ = some (.int .i64 ak) := (blk_cell aa.out 8).trans rfl
      have dm := blk_frozen aa.out 0
      have dn := blk_frozen aa.out 1
      have dp := blk_frozen aa.out 2
      have dq := blk_frozen aa.out 3
      have dr := blk_frozen aa.out 4
      have ds := blk_frozen aa.out 5
      have dt := blk_frozen aa.out 6
      have du := blk_frozen aa.out 7
      have dv := blk_frozen aa.out 8
      go_wp2_with (first | ((with_reducible refine gate_callee (f := 110) rfl ?_); refine goesL_ (some 29) rfl rfl Try.func110 (by kernel_rfl) rfl #[.agg #[.string ae, .int .i64 af, .int .i64 ag, .bool ac, .bool ad, .int .i64 ah, .int .i64 ai, .int .i64 aj, .int .i64 ak], .string a1, .string a2, .bool false] rfl (by (try simp only [List.map_toArray, List.map_cons, List.map_nil]); first | done | rfl | (simp only [List.length_drop, List.length_take]; rfl)) ?_; (with_reducible refine (batonref20_conds.calls ae af ag ac ad ah ai aj ak a1 a2 false aJ _ A26.out).mono ?_); rintro e w30 ⟨v202, rfl, ho0, hb⟩; refine ⟨_, rfl, ?_⟩; have n0_ := Aside0.mk (Kd.R_lower ho0 (below_size (by repeat (first | (with_reducible first | exact HB.out | apply below_alloc | apply pw_below_drewN | apply below_drew1 | refine below_set ?_ aA.out | refine below_set ?_ aF.out) | exact HB.out)))); have n1_ := Aside0.mk (blk_below (g := ab) (o := .cells #[.string ae, .int .i64 af, .int .i64 ag, .bool ac, .bool ad, .int .i64 ah, .int .i64 ai, .int .i64 aj, .int .i64 ak] 27 (0, 0)) (by (with_reducible repeat (first | refine blk_drewN ?_ _ | refine blk_drew ?_ | refine blk_alloc ?_ _)); exact aa.out) hb); have n2_ := Aside0.mk (blk_below (g := av) (o := .cells #[.slice none 0 0, .slice none 0 0] 34 (0, 0)) (by (with_reducible repeat (first | refine blk_drewN ?_ _ | refine blk_drew ?_ | refine blk_alloc ?_ _)); exact ao.out) hb); have n3_ := Aside0.mk (below_step (by repeat (first | (with_reducible first | exact HB.out | apply below_alloc | apply pw_below_drewN | apply below_drew1 | refine below_set ?_ aA.out | refine below_set ?_ aF.out) | exact HB.out)) hb); clear aa; clear ao; clear HB; have HO203 := n0_; have aa := n1_; have ao := n2_; have HB := n3_; clear n0_ n1_ n2_ n3_; (try clear hb); (try clear hb2); (try clear hk); (try clear hi); (try clear ho0)) | ((with_reducible refine gate_callee (f := 95) rfl ?_); refine goesL_ (some 32) rfl rfl Try.func95 (by kernel_rfl) rfl #[.string a1, .string a2] rfl (by (try simp only [List.map_toArray, List.map_cons, List.map_nil]); first | done | rfl | (simp only [List.length_drop, List.length_take]; rfl)) ?_; (with_reducible refine (batonref11_Cluster.calls a1 a2 aG _ A27.out).mono ?_); rintro e w' ⟨rfl, ⟨nd, rfl⟩⟩; refine ⟨_, rfl, ?_⟩; (try (rw [drewN_self w30]; generalize hq_ : World.drewN w30 _ = w30; have n0_ : Aside0 (Kd.R k73 73 w30 w.heap.size (fun _ => True) v202 aJ) := ⟨by rw [← hq_]; exact (by (with_reducible repeat (first | apply Kd.R_alloc | apply Kd.R_drewN | apply Kd.R_drew)); exact HO203.out)⟩; have n1_ : Aside0 (w30.heap[ab]? = some (.cells #[.string ae, .int .i64 af, .int .i64 ag, .bool ac, .bool ad, .int .i64 ah, .int .i64 ai, .int .i64 aj, .int .i64 ak] 27 (0, 0))) := ⟨by rw [← hq_]; exact (by (with_reducible repeat (first | refine blk_drewN ?_ _ | refine blk_drew ?_ | refine blk_alloc ?_ _)); exact aa.out)⟩; have n2_ : Aside0 (w30.heap[av]? = some (.cells #[.slice none 0 0, .slice none 0 0] 34 (0, 0))) := ⟨by rw [← hq_]; exact (by (with_reducible repeat (first | refine blk_drewN ?_ _ | refine blk_drew ?_ | refine blk_alloc ?_ _)); exact ao.out)⟩; have n3_ : Aside0 (Below w.heap.size w w30) := ⟨by rw [← hq_]; exact (by repeat (first | (with_reducible first | exact HB.out | apply below_alloc | apply pw_below_drewN | apply below_drew1 | refine below_set ?_ aA.out | refine below_set ?_ aF.out) | exact HB.out))⟩; clear HO203 aa ao HB hq_; have HO203 := n0_; have aa := n1_; have ao := n2_; have HB := n3_; clear n0_ n1_ n2_ n3_))) | ((with_reducible refine gate_dst (N := 34) rfl ?_); refine Kd.R_lit k85 _ 85 ?hg (N := 34) ?hd (xs := ([(⟨true, aG, (⟨#[]⟩ : ByteArray)⟩ : S85)] : List (S85))) (inner := [.bool true, .string aG, .string (⟨#[]⟩ : ByteArray)]) (ok := fun _ => True) (okp := fun _ => True) ?hr ?hp (fun _ hk => hk) trivial (Below.refl _ _) (Nat.le_refl _) (by simp) ?_; (case hd => rfl); (case hg => rfl); (case hr => first | (go_simp; done) | (go_simp; rfl)); (case hp => exact (Reps.c3 (show Kd.M k85 _ _ _ (⟨true, aG, (⟨#[]⟩ : ByteArray)⟩ : S85) [.bool true, .string aG, .string (⟨#[]⟩ : ByteArray)] from (k85_mkM _ _ _ (⟨true, aG, (⟨#[]⟩ : ByteArray)⟩ : S85) )) (Reps.none _ _))); intro v206 w31 ho32 hb hg_ hnew_; clear hg_ hnew_; (first | rw [← Ny205.out] at ho32 | (simp only [Int.reduceToNat] at ho32; rw [← Ny205.out] at ho32)); have n0_ := Aside0.mk (Kd.R_below (by (with_reducible repeat (first | apply Kd.R_alloc | apply Kd.R_drewN | apply Kd.R_drew)); exact HO203.out) hb); have n1_ := Aside0.mk (Kd.R_lower ho32 (below_size (by repeat (first | (with_reducible first | exact HB.out | apply below_alloc | apply pw_below_drewN | apply below_drew1 | refine below_set ?_ aA.out | refine below_set ?_ aF.out) | exact HB.out)))); have n2_ := Aside0.mk (blk_below (g := ab) (o := .cells #[.string ae, .int .i64 af, .int .i64 ag, .bool ac, .bool ad, .int .i64 ah, .int .i64 ai, .int .i64 aj, .int .i64 ak] 27 (0, 0)) (by (with_reducible repeat (first | refine blk_drewN ?_ _ | refine blk_drew ?_ | refine blk_alloc ?_ _)); exact aa.out) hb); have n3_ := Aside0.mk (blk_below (g := av) (o := .cells #[.slice none 0 0, .slice none 0 0] 34 (0, 0)) (by (with_reducible repeat (first | refine blk_drewN ?_ _ | refine blk_drew ?_ | refine blk_alloc ?_ _)); exact ao.out) hb); have n4_ := Aside0.mk (below_step (by repeat (first | (with_reducible first | exact HB.out | apply below_alloc | apply pw_below_drewN | apply below_drew1 | refine below_set ?_ aA.out | refine below_set ?_ aF.out) | exact HB.out)) hb); clear HO203; clear aa; clear ao; clear HB; have HO203 := n0_; have HO207 := n1_; have aa := n2_; have ao := n3_; have HB := n4_; clear n0_ n1_ n2_ n3_ n4_; clear hb ho32; obtain ⟨Ao33, co33, eo33⟩ := Kd.R_slice HO207.out; subst eo33; obtain ⟨Ao34, co34, eo34⟩ := Kd.R_slice HO203.out; subst eo34; have cM : w31.cell? ⟨av, 0, none⟩ = some (.slice none 0 0) := (blk_cell ao.out 0).trans rfl; have cN : w31.cell? ⟨av, 1, none⟩ = some (.slice none 0 0) := (blk_cell ao.out 1).trans rfl; have cO := blk_frozen ao.out 0; have cP := blk_frozen ao.out 1))
      refine bodyPost_ret (results_ct rfl _ _ av 34 #[.slice Ao34 aJ.length co34, .slice Ao33 bc.length co33] (0, 0) _ rfl (by (with_reducible repeat (first | refine blk_drewN ?_ _ | refine blk_drew ?_ | refine blk_alloc ?_ _)); refine blk_put (cs := #[.slice Ao34 aJ.length co34, .slice none 0 0]) ?_ 1 _ rfl; (with_reducible repeat (first | refine blk_drewN ?_ _ | refine blk_drew ?_ | refine blk_alloc ?_ _)); refine blk_put (cs := #[.slice none 0 0, .slice none 0 0]) ?_ 0 _ rfl; (with_reducible repeat (first | refine blk_drewN ?_ _ | refine blk_drew ?_ | refine blk_alloc ?_ _)); exact ao.out) Try.underlying34 rfl (by kernel_rfl)) rfl ?_
      exact ⟨_, _, by first | rfl | (simp [errW_none, errW_some] <;> rfl) | (simp [*, errW_none, errW_some] <;> rfl), by (with_reducible repeat (first | apply Kd.R_alloc | apply Kd.R_drewN | apply Kd.R_drew)); exact Kd.R_mono (Kd.R_far (p := ⟨av, 1, none⟩) (Kd.R_far (p := ⟨av, 0, none⟩) (Kd.R_types HO203.out ao.out (by decide)) (fun _ hk => hk.2) (.slice Ao34 aJ.length co34)) (fun _ hk => hk.2) (.slice Ao33 bc.length co33)) (fun _ hk => trivial), by (with_reducible repeat (first | apply Kd.R_alloc | apply Kd.R_drewN | apply Kd.R_drew)); exact Kd.R_mono (Kd.R_far (p := ⟨av, 1, none⟩) (Kd.R_far (p := ⟨av, 0, none⟩) (Kd.R_types HO207.out ao.out (by decide)) (fun _ hk => hk.2) (.slice Ao34 aJ.length co34)) (fun _ hk => hk.2) (.slice Ao33 bc.length co33)) (fun _ hk => trivial), by repeat (first | (with_reducible first | exact HB.out | apply below_alloc | apply pw_below_drewN | apply below_drew1 | refine below_set ?_ aA.out | refine below_set ?_ aF.out) | exact HB.out)⟩
  ·
   replace c11 := Bool.eq_false_iff.mpr c11
   subst c11
   have H1 : (some (([] : List (S73)), ([] : List (S85)), 4)) = some (r1, r2, r3) := by rw [if_neg (show ¬ (false = true) by decide)] at H; exact H
   clear H
   have H := H1
   clear H1
   simp only [Option.some.injEq, Prod.mk.injEq] at H
   obtain ⟨rfl, rfl, rfl⟩ := H
   go_enter Try.func37, Try.ntmps37
   go_wp2_with (first | ((with_reducible refine gate_dst (N := 3) rfl ?_); refine box_event ?hg (N := 3) ?hd (cs := #[.string ae, .int .i64 af, .int .i64 ag, .bool ac, .bool ad, .int .i64 ah, .int .i64 ai, .int .i64 aj, .int .i64 ak]) (t := 27) ?hr ?_; (case hd => rfl); (case hg => rfl); (case hr => first | (go_simp; done) | (go_simp; rfl)); intro ab hg w36 hbox hb; have n0_ := Aside0.mk (below_step (by repeat (first | (with_reducible first | exact HB.out | apply below_alloc | apply pw_below_drewN | apply below_drew1) | exact HB.out)) hb); have n1_ := Aside0.mk (hbox); have n2_ := Aside0.mk ((by rw [hg]; exact (below_size (by repeat (first | (with_reducible first | exact HB.out | apply below_alloc | apply pw_below_drewN | apply below_drew1) | exact HB.out))) : w.heap.size ≤ ab)); have n3_ := Aside0.mk ((by rw [hg]; exact (below_size (by repeat (first | (with_reducible first | exact HB.out | apply below_alloc | apply pw_below_drewN | apply below_drew1) | exact HB.out))) : w.heap.size ≤ ab)); clear HB; have HB := n0_; have aa := n1_; have GW197 := n2_; have aA := n3_; clear n0_ n1_ n2_ n3_; clear hb hbox hg) | ((with_reducible refine gate_dst (N := 6) rfl ?_); refine box_event ?hg (N := 6) ?hd (cs := #[.slice none 0 0, .slice none 0 0]) (t := 34) ?hr ?_; (case hd => rfl); (case hg => rfl); (case hr => first | (go_simp; done) | (go_simp; rfl)); intro av hg w37 hbox hb; have n0_ := Aside0.mk (blk_below (g := ab) (o := .cells #[.string ae, .int .i64 af, .int .i64 ag, .bool ac, .bool ad, .int .i64 ah, .int .i64 ai, .int .i64 aj, .int .i64 ak] 27 (0, 0)) (by (with_reducible repeat (first | refine blk_drewN ?_ _ | refine blk_drew ?_ | refine blk_alloc ?_ _)); exact aa.out) hb); have n1_ := Aside0.mk (below_step (by repeat (first | (with_reducible first | exact HB.out | apply below_alloc | apply pw_below_drewN | apply below_drew1 | refine below_set ?_ aA.out) | exact HB.out)) hb); have n2_ := Aside0.mk (hbox); have n3_ := Aside0.mk ((by rw [hg]; exact (below_size (by repeat (first | (with_reducible first | exact HB.out | apply below_alloc | apply pw_below_drewN | apply below_drew1 | refine below_set ?_ aA.out) | exact HB.out))) : w.heap.size ≤ av)); have n4_ := Aside0.mk ((by rw [hg]; exact (below_size (by repeat (first | (with_reducible first | exact HB.out | apply below_alloc | apply pw_below_drewN | apply below_drew1 | refine below_set ?_ aA.out) | exact HB.out))) : w.heap.size ≤ av)); have n5_ := Aside0.mk ((by rw [hg]; exact Nat.ne_of_lt (blk_lt (g := ab) (o := .cells #[.string ae, .int .i64 af, .int .i64 ag, .bool ac, .bool ad, .int .i64 ah, .int .i64 ai, .int .i64 aj, .int .i64 ak] 27 (0, 0)) (by (with_reducible repeat (first | refine blk_drewN ?_ _ | refine blk_drew ?_ | refine blk_alloc ?_ _)); exact aa.out)) : ab ≠ av)); have n6_ := Aside0.mk ((by rw [hg]; exact Nat.ne_of_gt (blk_lt (g := ab) (o := .cells #[.string ae, .int .i64 af, .int .i64 ag, .bool ac, .bool ad, .int .i64 ah, .int .i64 ai, .int .i64 aj, .int .i64 ak] 27 (0, 0)) (by (with_reducible repeat (first | refine blk_drewN ?_ _ | refine blk_drew ?_ | refine blk_alloc ?_ _)); exact aa.out)) : av ≠ ab)); clear aa; clear HB; have aa := n0_; have HB := n1_; have ao := n2_; have GW198 := n3_; have aF := n4_; have aQ := n5_; have aR := n6_; clear n0_ n1_ n2_ n3_ n4_ n5_ n6_; clear hb hbox hg) | ((with_reducible refine gate_callee (f := 109) rfl ?_); refine goesL_ (some 10) rfl rfl Try.func109 (by kernel_rfl) rfl #[.string a1, .string a2, .int .i64 0] rfl (by (try simp only [List.map_toArray, List.map_cons, List.map_nil]); first | done | rfl | (simp only [List.length_drop, List.length_take]; rfl)) ?_; (with_reducible refine (batonref20_wrong.calls a1 a2 0 false _ A4.out).mono ?_); rintro e w' ⟨rfl, ⟨nd, rfl⟩⟩; refine ⟨_, rfl, ?_⟩; (try (rw [drewN_self w37]; generalize hq_ : World.drewN w37 _ = w37; have n0_ : Aside0 (w37.heap[ab]? = some (.cells #[.string ae, .int .i64 af, .int .i64 ag, .bool ac, .bool ad, .int .i64 ah, .int .i64 ai, .int .i64 aj, .int .i64 ak] 27 (0, 0))) := ⟨by rw [← hq_]; exact (by (with_reducible repeat (first | refine blk_drewN ?_ _ | refine blk_drew ?_ | refine blk_alloc ?_ _)); exact aa.out)⟩; have n1_ : Aside0 (w37.heap[av]? = some (.cells #[.slice none 0 0, .slice none 0 0] 34 (0, 0))) := ⟨by rw [← hq_]; exact (by (with_reducible repeat (first | refine blk_drewN ?_ _ | refine blk_drew ?_ | refine blk_alloc ?_ _)); exact ao.out)⟩; have n2_ : Aside0 (Below w.heap.size w w37) := ⟨by rw [← hq_]; exact (by repeat (first | (with_reducible first | exact HB.out | apply below_alloc | apply pw_below_drewN | apply below_drew1 | refine below_set ?_ aA.out | refine below_set ?_ aF.out) | exact HB.out))⟩; clear aa ao HB hq_; have aa := n0_; have ao := n1_; have HB := n2_; clear n0_ n1_ n2_)); have dw := aQ.out; have dx := aR.out; have dy : w37.cell? ⟨ab, 0, none⟩ = some (.string ae) := (blk_cell aa.out 0).trans rfl; have dz : w37.cell? ⟨ab, 1, none⟩ = some (.int .i64 af) := (blk_cell aa.out 1).trans rfl; have dA : w37.cell? ⟨ab, 2, none⟩ = some (.int .i64 ag) := (blk_cell aa.out 2).trans rfl; have dB : w37.cell? ⟨ab, 3, none⟩ = some (.bool ac) := (blk_cell aa.out 3).trans rfl; have dC : w37.cell? ⟨ab, 4, none⟩ = some (.bool ad) := (blk_cell aa.out 4).trans rfl; have dD : w37.cell? ⟨ab, 5, none⟩ = some (.int .i64 ah) := (blk_cell aa.out 5).trans rfl; have dE : w37.cell? ⟨ab, 6, none⟩ = some (.int .i64 ai) := (blk_cell aa.out 6).trans rfl; have dF : w37.cell? ⟨ab, 7, none⟩ = some (.int .i64 aj) := (blk_cell aa.out 7).trans rfl; have dG : w37.cell? ⟨ab, 8, none⟩ = some (.int .i64 ak) := (blk_cell aa.out 8).trans rfl; have dH := blk_frozen aa.out 0; have dI := blk_frozen aa.out 1; have dJ := blk_frozen aa.out 2; have dK := blk_frozen aa.out 3; have dL := blk_frozen aa.out 4; have dM := blk_frozen aa.out 5; have dN := blk_frozen aa.out 6; have dO := blk_frozen aa.out 7; have dP := blk_frozen aa.out 8) | ((with_reducible refine gate_callee (f := 29) rfl ?_); refine goesL_ (some 13) rfl rfl Try.func29 (by kernel_rfl) rfl #[.agg #[.string ae, .int .i64 af, .int .i64 ag, .bool ac, .bool ad, .int .i64 ah, .int .i64 ai, .int .i64 aj, .int .i64 ak]] rfl (by (try simp only [List.map_toArray, List.map_cons, List.map_nil]); first | done | rfl | (simp only [List.length_drop, List.length_take]; rfl)) ?_; (with_reducible refine (batonref20_May.calls k ae af ag ac ad ah ai aj ak false _ A10.out).mono ?_); rintro e w40 ⟨rfl, hb⟩; refine ⟨_, rfl, ?_⟩; have n0_ := Aside0.mk (blk_below (g := ab) (o := .cells #[.string ae, .int .i64 af, .int .i64 ag, .bool ac, .bool ad, .int .i64 ah, .int .i64 ai, .int .i64 aj, .int .i64 ak] 27 (0, 0)) (by (with_reducible repeat (first | refine blk_drewN ?_ _ | refine blk_drew ?_ | refine blk_alloc ?_ _)); exact aa.out) hb); have n1_ := Aside0.mk (blk_below (g := av) (o := .cells #[.slice none 0 0, .slice none 0 0] 34 (0, 0)) (by (with_reducible repeat (first | refine blk_drewN ?_ _ | refine blk_drew ?_ | refine blk_alloc ?_ _)); exact ao.out) hb); have n2_ := Aside0.mk (below_step (by repeat (first | (with_reducible first | exact HB.out | apply below_alloc | apply pw_below_drewN | apply below_drew1 | refine below_set ?_ aA.out | refine below_set ?_ aF.out) | exact HB.out)) hb); clear aa; clear ao; clear HB; have aa := n0_; have ao := n1_; have HB := n2_; clear n0_ n1_ n2_; (try clear hb); (try clear hb2); (try clear hk); (try clear hi); have dQ : w40.cell? ⟨av, 0, none⟩ = some (.slice none 0 0) := (blk_cell ao.out 0).trans rfl; have dR : w40.cell? ⟨av, 1, none⟩ = some (.slice none 0 0) := (blk_cell ao.out 1).trans rfl; have dS := blk_frozen ao.out 0; have dT := blk_frozen ao.out 1))
   refine bodyPost_ret (results_ct rfl _ _ av 34 #[.slice none 0 0, .slice none 0 0] (0, 0) _ rfl (by (with_reducible repeat (first | refine blk_drewN ?_ _ | refine blk_drew ?_ | refine blk_alloc ?_ _)); refine blk_put (cs := #[.slice none 0 0, .slice none 0 0]) ?_ 1 _ rfl; (with_reducible repeat (first | refine blk_drewN ?_ _ | refine blk_drew ?_ | refine blk_alloc ?_ _)); refine blk_put (cs := #[.slice none 0 0, .slice none 0 0]) ?_ 0 _ rfl; (with_reducible repeat (first | refine blk_drewN ?_ _ | refine blk_drew ?_ | refine blk_alloc ?_ _)); exact ao.out) Try.underlying34 rfl (by kernel_rfl)) rfl ?_
   exact ⟨_, _, by first | rfl | (simp [errW_none, errW_some] <;> rfl) | (simp [*, errW_none, errW_some] <;> rfl), by first | exact Kd.R_nil _ _ _ _ _ | exact Kd.N_nil _ _ _ _ _ | exact Kd.V_nil _ _ _ _ _ | exact Kd.Q_nil _ _ _ _ _ | exact Kd.S_nil _ _ _ _ _, by first | exact Kd.R_nil _ _ _ _ _ | exact Kd.N_nil _ _ _ _ _ | exact Kd.V_nil _ _ _ _ _ | exact Kd.Q_nil _ _ _ _ _ | exact Kd.S_nil _ _ _ _ _, by repeat (first | (with_reducible first | exact HB.out | apply below_alloc | apply pw_below_drewN | apply below_drew1 | refine below_set ?_ aA.out | refine below_set ?_ aF.out) | exact HB.out)⟩
mutual
def batonref20_SameTxn.j0 : Nat → Bool → List (S73) → List (S85) → List (S73) → List (S85) → Option (Bool)
 | 0, _, _, _, _, _ => none
 | k + 1, x22, aS, aM, aT, aN => if x22 = true then (some false) else (batonref20_SameTxn.l0 k 0 aS aM aT aN)
def batonref20_SameTxn.l0 : Nat → Int → List (S73) → List (S85) → List (S73) → List (S85) → Option (Bool)
 | 0, _, _, _, _, _ => none
 | k + 1, x5, aS, aM, aT, aN => if x5 < (aS.length : Int) then (if 0 ≤ x5 then (if x5 < (aT.length : Int) then (if (!((((rd_T73 aS x5).f0).toList) == (((rd_T73 aT x5).f0).toList)) || (!(((rd_T73 aS x5).f1) == ((rd_T73 aT x5).f1)))) = true then (some false) else (batonref20_SameTxn.l0 k (wrap64 (x5 + 1)) aS aM aT aN)) else (none)) else (none)) else (batonref20_SameTxn.l1 k 0 aS aM aT aN)
def batonref20_SameTxn.l1 : Nat → Int → List (S73) → List (S85) → List (S73) → List (S85) → Option (Bool)
 | 0, _, _, _, _, _ => none
 | k + 1, x6, aS, aM, aT, aN => if x6 < (aM.length : Int) then (if 0 ≤ x6 then (if x6 < (aN.length : Int) then (if (!(((rd_T85 aM x6).f0) == ((rd_T85 aN x6).f0)) || (!((((rd_T85 aM x6).f1).toList) == (((rd_T85 aN x6).f1).toList)) || (!((((rd_T85 aM x6).f2).toList) == (((rd_T85 aN x6).f2).toList))))) = true then (some false) else (batonref20_SameTxn.l1 k (wrap64 (x6 + 1)) aS aM aT aN)) else (none)) else (none)) else (some true)
end
def batonref20_SameTxn.f (k : Nat) (am : List (S73)) (an : List (S85)) (ap : List (S73)) (aq : List (S85)) : Option (Bool) := if (am.length : Int) = (ap.length : Int) then (batonref20_SameTxn.j0 k ((an.length : Int) != (aq.length : Int)) am an ap aq) else (batonref20_SameTxn.j0 k true am an ap aq)
set_option maxHeartbeats 8000000 in
set_option maxRecDepth 100000 in
theorem batonref20_SameTxn.calls (k : Nat) (A0_0 : Option Addr) (aB : Nat) (am : List (S73)) (A0_1 : Option Addr) (aC : Nat) (an : List (S85)) (A1_0 : Option Addr) (aH : Nat) (ap : List (S73)) (A1_1 : Option Addr) (aI : Nat) (aq : List (S85)) (r : Bool) (w : World) (bG : Kd.C k73 w A0_0 am.length am) (bH : am.length ≤ aB) (bI : Kd.C k85 w A0_1 an.length an) (bJ : an.length ≤ aC) (bK : Kd.C k73 w A1_0 ap.length ap) (bL : ap.length ≤ aH) (bM : Kd.C k85 w A1_1 aq.length aq) (bN : aq.length ≤ aI) (h : batonref20_SameTxn.f k am an ap aq = some r) :
  Calls Try.prog 27 #[.agg #[.slice A0_0 am.length aB, .slice A0_1 an.length aC], .agg #[.slice A1_0 ap.length aH, .slice A1_1 aq.length aI]] w fun e w' => e = .returned (.bool r) ∧ Below w.heap.size w w' := by
 have hu34 := Try.underlying34
 have hu73 := Try.underlying73
 have hu85 := Try.underlying85
 have HR0_0 := Aside0.mk bG
 have HC0_0 := Aside0.mk bH
 clear bG bH
 have HR0_1 := Aside0.mk bI
 have HC0_1 := Aside0.mk bJ
 clear bI bJ
 have HR1_0 := Aside0.mk bK
 have HC1_0 := Aside0.mk bL
 clear bK bL
 have HR1_1 := Aside0.mk bM
 have HC1_1 := Aside0.mk bN
 clear bM bN
 have HB := Aside0.mk (Below.refl w.heap.size w)
 have H : (if (am.length : Int) = (ap.length : Int) then (batonref20_SameTxn.j0 k ((an.length : Int) != (aq.length : Int)) am an ap aq) else (batonref20_SameTxn.j0 k true am an ap aq)) = some r := h
 clear h
 have bn := Aside0.mk H
 clear H
 go_enter Try.func27, Try.ntmps27
 go_upto_region 1 with (first | ((with_reducible refine gate_dst (N := 2) rfl ?_); (try (refine gate_guard (by rfl) ?_; dsimp only)); refine box_event ?hg (N := 2) ?hd (cs := #[.slice A0_0 am.length aB, .slice A0_1 an.length aC]) (t := 34) ?hr ?_; (case hd => rfl); (case hg => rfl); (case hr => first | (go_simp; done) | (go_simp; rfl)); intro ar hg w4 hbox hb; have n0_ := Aside0.mk (below_step (by repeat (first | (with_reducible first | exact HB.out | apply below_alloc | apply pw_below_drewN | apply below_drew1) | exact HB.out)) hb); have n1_ := Aside0.mk (hbox); have n2_ := Aside0.mk ((by rw [hg]; exact (below_size (by repeat (first | (with_reducible first | exact HB.out | apply below_alloc | apply pw_below_drewN | apply below_drew1) | exact HB.out))) : w.heap.size ≤ ar)); have n3_ := Aside0.mk ((by rw [hg]; exact (below_size (by repeat (first | (with_reducible first | exact HB.out | apply below_alloc | apply pw_below_drewN | apply below_drew1) | exact HB.out))) : w.heap.size ≤ ar)); clear HB; have HB := n0_; have al := n1_; have GW208 := n2_; have aE := n3_; clear n0_ n1_ n2_ n3_; clear hb hbox hg) | ((with_reducible refine gate_dst (N := 3) rfl ?_); (try (refine gate_guard (by rfl) ?_; dsimp only)); refine box_event ?hg (N := 3) ?hd (cs := #[.slice A1_0 ap.length aH, .slice A1_1 aq.length aI]) (t := 34) ?hr ?_; (case hd => rfl); (case hg => rfl); (case hr => first | (go_simp; done) | (go_simp; rfl)); intro az hg w5 hbox hb; have n0_ := Aside0.mk (blk_below (g := ar) (o := .cells #[.slice A0_0 am.length aB, .slice A0_1 an.length aC] 34 (0, 0)) (by (with_reducible repeat (first | refine blk_drewN ?_ _ | refine blk_drew ?_ | refine blk_alloc ?_ _)); exact al.out) hb); have n1_ := Aside0.mk (below_step (by repeat (first | (with_reducible first | exact HB.out | apply below_alloc | apply pw_below_drewN | apply below_drew1 | refine below_set ?_ aE.out) | exact HB.out)) hb); have n2_ := Aside0.mk (hbox); have n3_ := Aside0.mk ((by rw [hg]; exact (below_size (by repeat (first | (with_reducible first | exact HB.out | apply below_alloc | apply pw_below_drewN | apply below_drew1 | refine below_set ?_ aE.out) | exact HB.out))) : w.heap.size ≤ az)); have n4_ := Aside0.mk ((by rw [hg]; exact (below_size (by repeat (first | (with_reducible first | exact HB.out | apply below_alloc | apply pw_below_drewN | apply below_drew1 | refine below_set ?_ aE.out) | exact HB.out))) : w.heap.size ≤ az)); have n5_ := Aside0.mk ((by rw [hg]; exact Nat.ne_of_lt (blk_lt (g := ar) (o := .cells #[.slice A0_0 am.length aB, .slice A0_1 an.length aC] 34 (0, 0)) (by (with_reducible repeat (first | refine blk_drewN ?_ _ | refine blk_drew ?_ | refine blk_alloc ?_ _)); exact al.out)) : ar ≠ az)); have n6_ := Aside0.mk ((by rw [hg]; exact Nat.ne_of_gt (blk_lt (g := ar) (o := .cells #[.slice A0_0 am.length aB, .slice A0_1 an.length aC] 34 (0, 0)) (by (with_reducible repeat (first | refine blk_drewN ?_ _ | refine blk_drew ?_ | refine blk_alloc ?_ _)); exact al.out)) : az ≠ ar)); clear al; clear HB; have al := n0_; have HB := n1_; have ax := n2_; have GW209 := n3_; have aK := n4_; have aO := n5_; have aP := n6_; clear n0_ n1_ n2_ n3_ n4_ n5_ n6_; clear hb hbox hg))
 repeat (go_quiet (first | ((with_reducible refine gate_dst (N := 2) rfl ?_); (try (refine gate_guard (by rfl) ?_; dsimp only)); refine box_event ?hg (N := 2) ?hd (cs := #[.slice A0_0 am.length aB, .slice A0_1 an.length aC]) (t := 34) ?hr ?_; (case hd => rfl); (case hg => rfl); (case hr => first | (go_simp; done) | (go_simp; rfl)); intro ar hg w4 hbox hb; have n0_ := Aside0.mk (below_step (by repeat (first | (with_reducible first | exact HB.out | apply below_alloc | apply pw_below_drewN | apply below_drew1) | exact HB.out)) hb); have n1_ := Aside0.mk (hbox); have n2_ := Aside0.mk ((by rw [hg]; exact (below_size (by repeat (first | (with_reducible first | exact HB.out | apply below_alloc | apply pw_below_drewN | apply below_drew1) | exact HB.out))) : w.heap.size ≤ ar)); have n3_ := Aside0.mk ((by rw [hg]; exact (below_size (by repeat (first | (with_reducible first | exact HB.out | apply below_alloc | apply pw_below_drewN | apply below_drew1) | exact HB.out))) : w.heap.size ≤ ar)); clear HB; have HB := n0_; have al := n1_; have GW208 := n2_; have aE := n3_; clear n0_ n1_ n2_ n3_; clear hb hbox hg) | ((with_reducible refine gate_dst (N := 3) rfl ?_); (try (refine gate_guard (by rfl) ?_; dsimp only)); refine box_event ?hg (N := 3) ?hd (cs := #[.slice A1_0 ap.length aH, .slice A1_1 aq.length aI]) (t := 34) ?hr ?_; (case hd => rfl); (case hg => rfl); (case hr => first | (go_simp; done) | (go_simp; rfl)); intro az hg w5 hbox hb; have n0_ := Aside0.mk (blk_below (g := ar) (o := .cells #[.slice A0_0 am.length aB, .slice A0_1 an.length aC] 34 (0, 0)) (by (with_reducible repeat (first | refine blk_drewN ?_ _ | refine blk_drew ?_ | refine blk_alloc ?_ _)); exact al.out) hb); have n1_ := Aside0.mk (below_step (by repeat (first | (with_reducible first | exact HB.out | apply below_alloc | apply pw_below_drewN | apply below_drew1 | refine below_set ?_ aE.out) | exact HB.out)) hb); have n2_ := Aside0.mk (hbox); have n3_ := Aside0.mk ((by rw [hg]; exact (below_size (by repeat (first | (with_reducible first | exact HB.out | apply below_alloc | apply pw_below_drewN | apply below_drew1 | refine below_set ?_ aE.out) | exact HB.out))) : w.heap.size ≤ az)); have n4_ := Aside0.mk ((by rw [hg]; exact (below_size (by repeat (first | (with_reducible first | exact HB.out | apply below_alloc | apply pw_below_drewN | apply below_drew1 | refine below_set ?_ aE.out) | exact HB.out))) : w.heap.size ≤ az)); have n5_ := Aside0.mk ((by rw [hg]; exact Nat.ne_of_lt (blk_lt (g := ar) (o := .cells #[.slice A0_0 am.length aB, .slice A0_1 an.length aC] 34 (0, 0)) (by (with_reducible repeat (first | refine blk_drewN ?_ _ | refine blk_drew ?_ | refine blk_alloc ?_ _)); exact al.out)) : ar ≠ az)); have n6_ := Aside0.mk ((by rw [hg]; exact Nat.ne_of_gt (blk_lt (g := ar) (o := .cells #[.slice A0_0 am.length aB, .slice A0_1 an.length aC] 34 (0, 0)) (by (with_reducible repeat (first | refine blk_drewN ?_ _ | refine blk_drew ?_ | refine blk_alloc ?_ _)); exact al.out)) : az ≠ ar)); clear al; clear HB; have al := n0_; have HB := n1_; have ax := n2_; have GW209 := n3_; have aK := n4_; have aO := n5_; have aP := n6_; clear n0_ n1_ n2_ n3_ n4_ n5_ n6_; clear hb hbox hg)); go_upto_region 1 with (first | ((with_reducible refine gate_dst (N := 2) rfl ?_); (try (refine gate_guard (by rfl) ?_; dsimp only)); refine box_event ?hg (N := 2) ?hd (cs := #[.slice A0_0 am.length aB, .slice A0_1 an.length aC]) (t := 34) ?hr ?_; (case hd => rfl); (case hg => rfl); (case hr => first | (go_simp; done) | (go_simp; rfl)); intro ar hg w4 hbox hb; have n0_ := Aside0.mk (below_step (by repeat (first | (with_reducible first | exact HB.out | apply below_alloc | apply pw_below_drewN | apply below_drew1) | exact HB.out)) hb); have n1_ := Aside0.mk (hbox); have n2_ := Aside0.mk ((by rw [hg]; exact (below_size (by repeat (first | (with_reducible first | exact HB.out | apply below_alloc | apply pw_below_drewN | apply below_drew1) | exact HB.out))) : w.heap.size ≤ ar)); have n3_ := Aside0.mk ((by rw [hg]; exact (below_size (by repeat (first | (with_reducible first | exact HB.out | apply below_alloc | apply pw_below_drewN | apply below_drew1) | exact HB.out))) : w.heap.size ≤ ar)); clear HB; have HB := n0_; have al := n1_; have GW208 := n2_; have aE := n3_; clear n0_ n1_ n2_ n3_; clear hb hbox hg) | ((with_reducible refine gate_dst (N := 3) rfl ?_); (try (refine gate_guard (by rfl) ?_; dsimp only)); refine box_event ?hg (N := 3) ?hd (cs := #[.slice A1_0 ap.length aH, .slice A1_1 aq.length aI]) (t := 34) ?hr ?_; (case hd => rfl); (case hg => rfl); (case hr => first | (go_simp; done) | (go_simp; rfl)); intro az hg w5 hbox hb; have n0_ := Aside0.mk (blk_below (g := ar) (o := .cells #[.slice A0_0 am.length aB, .slice A0_1 an.length aC] 34 (0, 0)) (by (with_reducible repeat (first | refine blk_drewN ?_ _ | refine blk_drew ?_ | refine blk_alloc ?_ _)); exact al.out) hb); have n1_ := Aside0.mk (below_step (by repeat (first | (with_reducible first | exact HB.out | apply below_alloc | apply pw_below_drewN | apply below_drew1 | refine below_set ?_ aE.out) | exact HB.out)) hb); have n2_ := Aside0.mk (hbox); have n3_ := Aside0.mk ((by rw [hg]; exact (below_size (by repeat (first | (with_reducible first | exact HB.out | apply below_alloc | apply pw_below_drewN | apply below_drew1 | refine below_set ?_ aE.out) | exact HB.out))) : w.heap.size ≤ az)); have n4_ := Aside0.mk ((by rw [hg]; exact (below_size (by repeat (first | (with_reducible first | exact HB.out | apply below_alloc | apply pw_below_drewN | apply below_drew1 | refine below_set ?_ aE.out) | exact HB.out))) : w.heap.size ≤ az)); have n5_ := Aside0.mk ((by rw [hg]; exact Nat.ne_of_lt (blk_lt (g := ar) (o := .cells #[.slice A0_0 am.length aB, .slice A0_1 an.length aC] 34 (0, 0)) (by (with_reducible repeat (first | refine blk_drewN ?_ _ | refine blk_drew ?_ | refine blk_alloc ?_ _)); exact al.out)) : ar ≠ az)); have n6_ := Aside0.mk ((by rw [hg]; exact Nat.ne_of_gt (blk_lt (g := ar) (o := .cells #[.slice A0_0 am.length aB, .slice A0_1 an.length aC] 34 (0, 0)) (by (with_reducible repeat (first | refine blk_drewN ?_ _ | refine blk_drew ?_ | refine blk_alloc ?_ _)); exact al.out)) : az ≠ ar)); clear al; clear HB; have al := n0_; have HB := n1_; have ax := n2_; have GW209 := n3_; have aK := n4_; have aO := n5_; have aP := n6_; clear n0_ n1_ n2_ n3_ n4_ n5_ n6_; clear hb hbox hg)))
 (try simp only [Act.put, List.setIfInBounds_toArray, List.set_cons_zero, List.set_cons_succ])
 go_cut [22] (fun v22 wc => ∃ (kq : Nat) (bd : Bool), v22 = .bool bd ∧ Aside0 (batonref20_SameTxn.j0 kq bd am an ap aq = some r) ∧ Aside0 (kq ≤ k) ∧ Aside0 (wc.heap[ar]? = some (.cells #[(.slice A0_0 am.length aB), (.slice A0_1 an.length aC)] 34 (0, 0))) ∧ Aside0 (wc.heap[az]? = some (.cells #[(.slice A1_0 ap.length aH), (.slice A1_1 aq.length aI)] 34 (0, 0))) ∧ Aside0 (Below w.heap.size w wc))
 case first =>
  have H := bn.out
  clear bn
  by_cases c6 : (am.length : Int) = (ap.length : Int)
  ·
   rw [if_pos c6] at H
   have c6b0 : ((am.length : Int) == (ap.length : Int)) = true := beq_iff_eq.mpr c6
   have c6b1 : ((am.length : Int) != (ap.length : Int)) = false := bne_eq_false_iff_eq.mpr c6
   have c6b2 : (am.length == ap.length) = true := by first | simpa using c6 | (simp at c6 ⊢; omega)
   clear c6
   (first | rw [c6b0] | (simp only [i64_w, i32_w]; rw [c6b0]) | skip)
   have H' := Aside0.mk H
   clear H
   have dU := aO.out
   have dV := aP.out
   have bo : w5.cell? ⟨ar, 0, none⟩ = some (.slice A0_0 am.length aB) := (blk_cell al.out 0).trans rfl
   have bp : w5.cell? ⟨ar, 1, none⟩ = some (.slice A0_1 an.length aC) := (blk_cell al.out 1).trans rfl
   have bq := blk_frozen al.out 0
   have br := blk_frozen al.out 1
   have a7 : w5.cell? ⟨az, 0, none⟩ = some (.slice A1_0 ap.length aH) := (blk_cell ax.out 0).trans rfl
   have a8 : w5.cell? ⟨az, 1, none⟩ = some (.slice A1_1 aq.length aI) := (blk_cell ax.out 1).trans rfl
   have a9 := blk_frozen ax.out 0
   have ba := blk_frozen ax.out 1
   go_wp2
   repeat (go_quiet (fail); try go_wp2)
   go_meet
   case rel => exact ⟨_, (((an.length : Int) != (aq.length : Int))), (by first | rfl | (simp; done) | (simp [*]; done)), H', ⟨by first | omega | exact Nat.le_refl _⟩, ⟨by (with_reducible repeat (first | refine blk_drewN ?_ _ | refine blk_drew ?_ | refine blk_alloc ?_ _)); exact al.out⟩, ⟨by (with_reducible repeat (first | refine blk_drewN ?_ _ | refine blk_drew ?_ | refine blk_alloc ?_ _)); exact ax.out⟩, ⟨by repeat (first | (with_reducible first | exact HB.out | apply below_alloc | apply pw_below_drewN | apply below_drew1 | refine below_set ?_ aE.out | refine below_set ?_ aK.out) | exact HB.out)⟩⟩
  ·
   rw [if_neg c6] at H
   have c6b0 : ((am.length : Int) == (ap.length : Int)) = false := beq_eq_false_iff_ne.mpr c6
   have c6b1 : ((am.length : Int) != (ap.length : Int)) = true := bne_iff_ne.mpr c6
   have c6b2 : (am.length == ap.length) = false := by first | simpa using c6 | (simp at c6 ⊢; omega)
   (first | rw [c6b0] | (simp only [i64_w, i32_w]; rw [c6b0]) | skip)
   have H' := Aside0.mk H
   clear H
   have dW := aO.out
   have dX := aP.out
   have bs : w5.cell? ⟨ar, 0, none⟩ = some (.slice A0_0 am.length aB) := (blk_cell al.out 0).trans rfl
   have bt : w5.cell? ⟨ar, 1, none⟩ = some (.slice A0_1 an.length aC) := (blk_cell al.out 1).trans rfl
   have bu := blk_frozen al.out 0
   have bv := blk_frozen al.out 1
   have bw : w5.cell? ⟨az, 0, none⟩ = some (.slice A1_0 ap.length aH) := (blk_cell ax.out 0).trans rfl
   have bx : w5.cell? ⟨az, 1, none⟩ = some (.slice A1_1 aq.length aI) := (blk_cell ax.out 1).trans rfl
   have bz := blk_frozen ax.out 0
   have bA := blk_frozen ax.out 1
   go_wp2
   repeat (go_quiet (fail); try go_wp2)
   go_meet
   case rel => exact ⟨_, (true), (by first | rfl | (simp; done) | (simp [*]; done)), H', ⟨by first | omega | exact Nat.le_refl _⟩, ⟨by (with_reducible repeat (first | refine blk_drewN ?_ _ | refine blk_drew ?_ | refine blk_alloc ?_ _)); exact al.out⟩, ⟨by (with_reducible repeat (first | refine blk_drewN ?_ _ | refine blk_drew ?_ | refine blk_alloc ?_ _)); exact ax.out⟩, ⟨by repeat (first | (with_reducible first | exact HB.out | apply below_alloc | apply pw_below_drewN | apply below_drew1 | refine below_set ?_ aE.out | refine below_set ?_ aK.out) | exact HB.out)⟩⟩
 case rest =>
  clear bn
  try clear c1
  try clear c2
  try clear p2
  try clear c6
  try clear c6b0
  try clear c6b1
  try clear c6b2
  try clear c7
  try clear c10
  try clear bs
  try clear bt
  try clear bw
  try clear bx
  try clear bo
  try clear bp
  try clear a7
  try clear a8
  try clear bu
  try clear bv
  try clear bz
  try clear bA
  try clear bq
  try clear br
  try clear a9
  try clear ba
  obtain ⟨kq, bd, rfl, HA, HJ2, al, ax, HB⟩ := hcut
  cases kq with
  | zero => exact absurd HA.out (by simp [batonref20_SameTxn.j0])
  | succ kj2 =>
   have H := HA.out
   clear HA
   simp only [batonref20_SameTxn.j0] at H
   by_cases c13 : bd = true
   ·
    subst c13
    have H1 : (some false) = some r := by rw [if_pos rfl] at H; exact H
    clear H
    have H := H1
    clear H1
    obtain rfl := Option.some.inj H
    go_wp2
    repeat (go_quiet (fail); try go_wp2)
    go_ret
    exact ⟨by first | rfl | (simp [errW_none, errW_some] <;> rfl) | (simp [*, errW_none, errW_some] <;> rfl), by repeat (first | (with_reducible first | exact HB.out | apply below_alloc | apply pw_below_drewN | apply below_drew1 | refine below_set ?_ aE.out | refine below_set ?_ aK.out) | exact HB.out)⟩
   ·
    replace c13 := Bool.eq_false_iff.mpr c13
    subst c13
    have H1 : (batonref20_SameTxn.l0 kj2 0 am an ap aq) = some r := by rw [if_neg (show ¬ (false = true) by decide)] at H; exact H
    clear H
    have H := H1
    clear H1
    have H' := Aside0.mk H
    clear H
    go_wp2
    repeat (go_quiet (fail); try go_wp2)
    go_loopg [5] kj2 (fun kq v5 w' => ∃ (ay : Int), v5 = .int .i64 ay ∧ Aside0 (batonref20_SameTxn.l0 kq ay am an ap aq = some r) ∧ Aside0 (kq ≤ kj2) ∧ Aside0 (w'.heap[ar]? = some (.cells #[(.slice A0_0 am.length aB), (.slice A0_1 an.length aC)] 34 (0, 0))) ∧ Aside0 (w'.heap[az]? = some (.cells #[(.slice A1_0 ap.length aH), (.slice A1_1 aq.length aI)] 34 (0, 0))) ∧ Aside0 (Below w.heap.size w w'))
    case atStart => exact ⟨(0), (by first | rfl | (simp; done) | (simp [*]; done)), H', ⟨Nat.le_refl _⟩, ⟨by (with_reducible repeat (first | refine blk_drewN ?_ _ | refine blk_drew ?_ | refine blk_alloc ?_ _)); exact al.out⟩, ⟨by (with_reducible repeat (first | refine blk_drewN ?_ _ | refine blk_drew ?_ | refine blk_alloc ?_ _)); exact ax.out⟩, ⟨by repeat (first | (with_reducible first | exact HB.out | apply below_alloc | apply pw_below_drewN | apply below_drew1 | refine below_set ?_ aE.out | refine below_set ?_ aK.out) | exact HB.out)⟩⟩
    case round =>
     clear H'
     try clear c1
     try clear c2
     try clear p2
     try clear c6
     try clear c6b0
     try clear c6b1
     try clear c6b2
     try clear c7
     try clear c10
     try clear c13
     try clear bs
     try clear bt
     try clear bw
     try clear bx
     try clear bo
     try clear bp
     try clear a7
     try clear a8
     try clear bu
     try clear bv
     try clear bz
     try clear bA
     try clear bq
     try clear br
     try clear a9
     try clear ba
     try clear p2
     obtain ⟨ay, rfl, HA, HK2, al, ax, HB⟩ := hrel
     cases gk with
     | zero => exact absurd HA.out (by simp [batonref20_SameTxn.l0])
     | succ k2 =>
      have H := HA.out
      clear HA
      simp only [batonref20_SameTxn.l0] at H
      by_cases c14 : ay < (am.length : Int)
      ·
       rw [if_pos c14] at H
       have c14b0 : decide (ay < (am.length : Int)) = true := decide_eq_true c14
       clear c14
       by_cases c15 : 0 ≤ ay
       ·
        rw [if_pos c15] at H
        have c15b0 : decide (0 ≤ ay) = true := decide_eq_true c15
        clear c15
        by_cases c16 : ay < (ap.length : Int)
        ·
         rw [if_pos c16] at H
         have c16b0 : decide (ay < (ap.length : Int)) = true := decide_eq_true c16
         clear c16
         by_cases c17 : (!((((rd_T73 am ay).f0).toList) == (((rd_T73 ap ay).f0).toList)) || (!(((rd_T73 am ay).f1) == ((rd_T73 ap ay).f1)))) = true
         ·
          rw [if_pos c17] at H
          have c17b0 : (!((((rd_T73 am ay).f0).toList) == (((rd_T73 ap ay).f0).toList)) || (!(((rd_T73 am ay).f1) == ((rd_T73 ap ay).f1)))) = true := c17
          clear c17
          obtain rfl := Option.some.inj H
          have dY := aO.out
          have dZ := aP.out
          have cQ : wr.cell? ⟨ar, 0, none⟩ = some (.slice A0_0 am.length aB) := (blk_cell al.out 0).trans rfl
          have cR : wr.cell? ⟨ar, 1, none⟩ = some (.slice A0_1 an.length aC) := (blk_cell al.out 1).trans rfl
          have cS := blk_frozen al.out 0
          have cT := blk_frozen al.out 1
          have p210 : 0 ≤ (ay : Int) := of_decide_eq_true (by first | (with_reducible assumption) | assumption)
          have q210 : ay < (am.length : Int) := of_decide_eq_true (by first | (with_reducible assumption) | assumption)
          obtain ⟨ad210, e210, aU, aV⟩ := at_T73 HR0_0.out ay p210 q210
          cases e210
          replace aU := (HB.out.cell (World.block_lt_of_cell? w _ aU)).trans aU
          replace aV := (HB.out.cell (World.block_lt_of_cell? w _ aV)).trans aV
          replace p210 := eq_true p210
          replace q210 := eq_true q210
          have bf : wr.cell? ⟨az, 0, none⟩ = some (.slice A1_0 ap.length aH) := (blk_cell ax.out 0).trans rfl
          have bg : wr.cell? ⟨az, 1, none⟩ = some (.slice A1_1 aq.length aI) := (blk_cell ax.out 1).trans rfl
          have bh := blk_frozen ax.out 0
          have bi := blk_frozen ax.out 1
          have p211 : 0 ≤ (ay : Int) := of_decide_eq_true (by first | (with_reducible assumption) | assumption)
          have q211 : ay < (ap.length : Int) := of_decide_eq_true (by first | (with_reducible assumption) | assumption)
          obtain ⟨ad211, e211, aW, aX⟩ := at_T73 HR1_0.out ay p211 q211
          cases e211
          replace aW := (HB.out.cell (World.block_lt_of_cell? w _ aW)).trans aW
          replace aX := (HB.out.cell (World.block_lt_of_cell? w _ aX)).trans aX
          replace p211 := eq_true p211
          replace q211 := eq_true q211
          go_wp2
          repeat (go_quiet (fail); try go_wp2)
          go_ret
          exact ⟨by first | rfl | (simp [errW_none, errW_some] <;> rfl) | (simp [*, errW_none, errW_some] <;> rfl), by repeat (first | (with_reducible first | exact HB.out | apply below_alloc | apply pw_below_drewN | apply below_drew1 | refine below_set ?_ aE.out | refine below_set ?_ aK.out) | exact HB.out)⟩
         ·
          rw [if_neg c17] at H
          have c17b0 : (!((((rd_T73 am ay).f0).toList) == (((rd_T73 ap ay).f0).toList)) || (!(((rd_T73 am ay).f1) == ((rd_T73 ap ay).f1)))) = false := by simpa using c17
          clear c17
          have H' := Aside0.mk H
          clear H
          have cu := aO.out
          have cv := aP.out
          have bj : wr.cell? ⟨ar, 0, none⟩ = some (.slice A0_0 am.length aB) := (blk_cell al.out 0).trans rfl
          have bk : wr.cell? ⟨ar, 1, none⟩ = some (.slice A0_1 an.length aC) := (blk_cell al.out 1).trans rfl
          have bl := blk_frozen al.out 0
          have bm := blk_frozen al.out 1
          have p210 : 0 ≤ (ay : Int) := of_decide_eq_true (by first | (with_reducible assumption) | assumption)
          have q210 : ay < (am.length : Int) := of_decide_eq_true (by first | (with_reducible assumption) | assumption)
          obtain ⟨ad210, e210, aU, aV⟩ := at_T73 HR0_0.out ay p210 q210
          cases e210
          replace aU := (HB.out.cell (World.block_lt_of_cell? w _ aU)).trans aU
          replace aV := (HB.out.cell (World.block_lt_of_cell? w _ aV)).trans aV
          replace p210 := eq_true p210
          replace q210 := eq_true q210
          have cU : wr.cell? ⟨az, 0, none⟩ = some (.slice A1_0 ap.length aH) := (blk_cell ax.out 0).trans rfl
          have cV : wr.cell? ⟨az, 1, none⟩ = some (.slice A1_1 aq.length aI) := (blk_cell ax.out 1).trans rfl
          have cW := blk_frozen ax.out 0
          have cX := blk_frozen ax.out 1
          have p211 : 0 ≤ (ay : Int) := of_decide_eq_true (by first | (with_reducible assumption) | assumption)
          have q211 : ay < (ap.length : Int) := of_decide_eq_true (by first | (with_reducible assumption) | assumption)
          obtain ⟨ad211, e211, aW, aX⟩ := at_T73 HR1_0.out ay p211 q211
          cases e211
          replace aW := (HB.out.cell (World.block_lt_of_cell? w _ aW)).trans aW
          replace aX := (HB.out.cell (World.block_lt_of_cell? w _ aX)).trans aX
          replace p211 := eq_true p211
          replace q211 := eq_true q211
          go_wp2
          repeat (go_quiet (fail); try go_wp2)
          go_roundg k2
          case measure => have := HJ2.out; have := HK2.out; omega
          case rel => exact ⟨(wrap64 (ay + 1)), (by first | rfl | (simp; done) | (simp [*]; done)), H', ⟨by have := HJ2.out; have := HK2.out; omega⟩, ⟨by (with_reducible repeat (first | refine blk_drewN ?_ _ | refine blk_drew ?_ | refine blk_alloc ?_ _)); exact al.out⟩, ⟨by (with_reducible repeat (first | refine blk_drewN ?_ _ | refine blk_drew ?_ | refine blk_alloc ?_ _)); exact ax.out⟩, ⟨by repeat (first | (with_reducible first | exact HB.out | apply below_alloc | apply pw_below_drewN | apply below_drew1 | refine below_set ?_ aE.out | refine below_set ?_ aK.out) | exact HB.out)⟩⟩
        ·
         rw [if_neg c16] at H
         exact absurd H (by simp)
       ·
        rw [if_neg c15] at H
        exact absurd H (by simp)
      ·
       rw [if_neg c14] at H
       have c14b0 : decide (ay < (am.length : Int)) = false := decide_eq_false c14
       clear c14
       have H' := Aside0.mk H
       clear H
       have cK := aO.out
       have cL := aP.out
       have bC : wr.cell? ⟨ar, 0, none⟩ = some (.slice A0_0 am.length aB) := (blk_cell al.out 0).trans rfl
       have bD : wr.cell? ⟨ar, 1, none⟩ = some (.slice A0_1 an.length aC) := (blk_cell al.out 1).trans rfl
       have bE := blk_frozen al.out 0
       have bF := blk_frozen al.out 1
       go_wp2
       repeat (go_quiet (fail); try go_wp2)
       go_loopg [6] k2 (fun kq v6 w' => ∃ (au : Int), v6 = .int .i64 au ∧ Aside0 (batonref20_SameTxn.l1 kq au am an ap aq = some r) ∧ Aside0 (kq ≤ k2) ∧ Aside0 (w'.heap[ar]? = some (.cells #[(.slice A0_0 am.length aB), (.slice A0_1 an.length aC)] 34 (0, 0))) ∧ Aside0 (w'.heap[az]? = some (.cells #[(.slice A1_0 ap.length aH), (.slice A1_1 aq.length aI)] 34 (0, 0))) ∧ Aside0 (Below w.heap.size w w'))
       case atStart => exact ⟨(0), (by first | rfl | (simp; done) | (simp [*]; done)), H', ⟨Nat.le_refl _⟩, ⟨by (with_reducible repeat (first | refine blk_drewN ?_ _ | refine blk_drew ?_ | refine blk_alloc ?_ _)); exact al.out⟩, ⟨by (with_reducible repeat (first | refine blk_drewN ?_ _ | refine blk_drew ?_ | refine blk_alloc ?_ _)); exact ax.out⟩, ⟨by repeat (first | (with_reducible first | exact HB.out | apply below_alloc | apply pw_below_drewN | apply below_drew1 | refine below_set ?_ aE.out | refine below_set ?_ aK.out) | exact HB.out)⟩⟩
       case round =>
        clear H'
        try clear c1
        try clear c2
        try clear p2
        try clear q2
        try clear hx2
        try clear c6
        try clear c6b0
        try clear c6b1
        try clear c6b2
        try clear p6
        try clear c7
        try clear c10
        try clear c13
        try clear c14
        try clear c14b0
        try clear c15
        try clear c15b0
        try clear c16
        try clear c16b0
        try clear c17
        try clear c17b0
        try clear c18
        try clear c21
        try clear p21
        try clear q21
        try clear hx21
        try clear c24
        try clear bs
        try clear bt
        try clear bw
        try clear bx
        try clear cQ
        try clear cR
        try clear bf
        try clear bg
        try clear bj
        try clear bk
        try clear cU
        try clear cV
        try clear bC
        try clear bD
        try clear bo
        try clear bp
        try clear a7
        try clear a8
        try clear bu
        try clear bv
        try clear bz
        try clear bA
        try clear cS
        try clear cT
        try clear bh
        try clear bi
        try clear bl
        try clear bm
        try clear cW
        try clear cX
        try clear bE
        try clear bF
        try clear bq
        try clear br
        try clear a9
        try clear ba
        try clear aU
        try clear aV
        try clear aW
        try clear aX
        try clear p2
        try clear p210
        try clear p211
        try clear q210
        try clear q211
        obtain ⟨au, rfl, HA, HK3, al, ax, HB⟩ := hrel
        cases gk with
        | zero => exact absurd HA.out (by simp [batonref20_SameTxn.l1])
        | succ k3 =>
         have H := HA.out
         clear HA
         simp only [batonref20_SameTxn.l1] at H
         by_cases c26 : au < (an.length : Int)
         ·
          rw [if_pos c26] at H
          have c26b0 : decide (au < (an.length : Int)) = true := decide_eq_true c26
          clear c26
          by_cases c27 : 0 ≤ au
          ·
           rw [if_pos c27] at H
           have c27b0 : decide (0 ≤ au) = true := decide_eq_true c27
           clear c27
           by_cases c28 : au < (aq.length : Int)
           ·
            rw [if_pos c28] at H
            have c28b0 : decide (au < (aq.length : Int)) = true := decide_eq_true c28
            clear c28
            by_cases c29 : (!(((rd_T85 an au).f0) == ((rd_T85 aq au).f0)) || (!((((rd_T85 an au).f1).toList) == (((rd_T85 aq au).f1).toList)) || (!((((rd_T85 an au).f2).toList) == (((rd_T85 aq au).f2).toList))))) = true
            ·
             rw [if_pos c29] at H
             have c29b0 : (!(((rd_T85 an au).f0) == ((rd_T85 aq au).f0)) || (!((((rd_T85 an au).f1).toList) == (((rd_T85 aq au).f1).toList)) || (!((((rd_T85 an au).f2).toList) == (((rd_T85 aq au).f2).toList))))) = true := c29
             clear c29
             obtain rfl := Option.some.inj H
             have d0 := aO.out
             have d1 := aP.out
             have d2 : wr.cell? ⟨ar, 0, none⟩ = some (.slice A0_0 am.length aB) := (blk_cell al.out 0).trans rfl
             have d3 : wr.cell? ⟨ar, 1, none⟩ = some (.slice A0_1 an.length aC) := (blk_cell al.out 1).trans rfl
             have d4 := blk_frozen al.out 0
             have d5 := blk_frozen al.out 1
             have p212 : 0 ≤ (au : Int) := of_decide_eq_true (by first | (with_reducible assumption) | assumption)
             have q212 : au < (an.length : Int) := of_decide_eq_true (by first | (with_reducible assumption) | assumption)
             obtain ⟨ad212, e212, aY, aZ, a0⟩ := at_T85 HR0_1.out au p212 q212
             cases e212
             replace aY := (HB.out.cell (World.block_lt_of_cell? w _ aY)).trans aY
             replace aZ := (HB.out.cell (World.block_lt_of_cell? w _ aZ)).trans aZ
             replace a0 := (HB.out.cell (World.block_lt_of_cell? w _ a0)).trans a0
             replace p212 := eq_true p212
             replace q212 := eq_true q212
             have d6 : wr.cell? ⟨az, 0, none⟩ = some (.slice A1_0 ap.length aH) := (blk_cell ax.out 0).trans rfl
             have d7 : wr.cell? ⟨az, 1, none⟩ = some (.slice A1_1 aq.length aI) := (blk_cell ax.out 1).trans rfl
             have d8 := blk_frozen ax.out 0
             have d9 := blk_frozen ax.out 1
             have p213 : 0 ≤ (au : Int) := of_decide_eq_true (by first | (with_reducible assumption) | assumption)
             have q213 : au < (aq.length : Int) := of_decide_eq_true (by first | (with_reducible assumption) | assumption)
             obtain ⟨ad213, e213, a3, a4, a5⟩ := at_T85 HR1_1.out au p213 q213
             cases e213
             replace a3 := (HB.out.cell (World.block_lt_of_cell? w _ a3)).trans a3
             replace a4 := (HB.out.cell (World.block_lt_of_cell? w _ a4)).trans a4
             replace a5 := (HB.out.cell (World.block_lt_of_cell? w _ a5)).trans a5
             replace p213 := eq_true p213
             replace q213 := eq_true q213
             go_wp2
             repeat (go_quiet (fail); try go_wp2)
             go_ret
             exact ⟨by first | rfl | (simp [errW_none, errW_some] <;> rfl) | (simp [*, errW_none, errW_some] <;> rfl), by repeat (first | (with_reducible first | exact HB.out | apply below_alloc | apply pw_below_drewN | apply below_drew1 | refine below_set ?_ aE.out | refine below_set ?_ aK.out) | exact HB.out)⟩
            ·
             rw [if_neg c29] at H
             have c29b0 : (!(((rd_T85 an au).f0) == ((rd_T85 aq au).f0)) || (!((((rd_T85 an au).f1).toList) == (((rd_T85 aq au).f1).toList)) || (!((((rd_T85 an au).f2).toList) == (((rd_T85 aq au).f2).toList))))) = false := by simpa using c29
             clear c29
             have H' := Aside0.mk H
             clear H
             have ea := aO.out
             have eb := aP.out
             have ec : wr.cell? ⟨ar, 0, none⟩ = some (.slice A0_0 am.length aB) := (blk_cell al.out 0).trans rfl
             have ed : wr.cell? ⟨ar, 1, none⟩ = some (.slice A0_1 an.length aC) := (blk_cell al.out 1).trans rfl
             have ee := blk_frozen al.out 0
             have ef := blk_frozen al.out 1
             have p212 : 0 ≤ (au : Int) := of_decide_eq_true (by first | (with_reducible assumption) | assumption)
             have q212 : au < (an.length : Int) := of_decide_eq_true (by first | (with_reducible assumption) | assumption)
             obtain ⟨ad212, e212, aY, aZ, a0⟩ := at_T85 HR0_1.out au p212 q212
             cases e212
             replace aY := (HB.out.cell (World.block_lt_of_cell? w _ aY)).trans aY
             replace aZ := (HB.out.cell (World.block_lt_of_cell? w _ aZ)).trans aZ
             replace a0 := (HB.out.cell (World.block_lt_of_cell? w _ a0)).trans a0
             replace p212 := eq_true p212
             replace q212 := eq_true q212
             have cM : wr.cell? ⟨az, 0, none⟩ = some (.slice A1_0 ap.length aH) := (blk_cell ax.out 0).trans rfl
             have cN : wr.cell? ⟨az, 1, none⟩ = some (.slice A1_1 aq.length aI) := (blk_cell ax.out 1).trans rfl
             have cO := blk_frozen ax.out 0
             have cP := blk_frozen ax.out 1
             have p213 : 0 ≤ (au : Int) := of_decide_eq_true (by first | (with_reducible assumption) | assumption)
             have q213 : au < (aq.length : Int) := of_decide_eq_true (by first | (with_reducible assumption) | assumption)
             obtain ⟨ad213, e213, a3, a4, a5⟩ := at_T85 HR1_1.out au p213 q213
             cases e213
             replace a3 := (HB.out.cell (World.block_lt_of_cell? w _ a3)).trans a3
             replace a4 := (HB.out.cell (World.block_lt_of_cell? w _ a4)).trans a4
             replace a5 := (HB.out.cell (World.block_lt_of_cell? w _ a5)).trans a5
             replace p213 := eq_true p213
             replace q213 := eq_true q213
             go_wp2
             repeat (go_quiet (fail); try go_wp2)
             go_roundg k3
             case measure => have := HJ2.out; have := HK2.out; have := HK3.out; omega
             case rel => exact ⟨(wrap64 (au + 1)), (by first | rfl | (simp; done) | (simp [*]; done)), H', ⟨by have := HJ2.out; have := HK2.out; have := HK3.out; omega⟩, ⟨by (with_reducible repeat (first | refine blk_drewN ?_ _ | refine blk_drew ?_ | refine blk_alloc ?_ _)); exact al.out⟩, ⟨by (with_reducible repeat (first | refine blk_drewN ?_ _ | refine blk_drew ?_ | refine blk_alloc ?_ _)); exact ax.out⟩, ⟨by repeat (first | (with_reducible first | exact HB.out | apply below_alloc | apply pw_below_drewN | apply below_drew1 | refine below_set ?_ aE.out | refine below_set ?_ aK.out) | exact HB.out)⟩⟩
           ·
            rw [if_neg c28] at H
            exact absurd H (by simp)
          ·
           rw [if_neg c27] at H
           exact absurd H (by simp)
         ·
          rw [if_neg c26] at H
          have c26b0 : decide (au < (an.length : Int)) = false := decide_eq_false c26
          clear c26
          obtain rfl := Option.some.inj H
          have eg := aO.out
          have eh := aP.out
          have ei : wr.cell? ⟨ar, 0, none⟩ = some (.slice A0_0 am.length aB) := (blk_cell al.out 0).trans rfl
          have ej : wr.cell? ⟨ar, 1, none⟩ = some (.slice A0_1 an.length aC) := (blk_cell al.out 1).trans rfl
          have ek := blk_frozen al.out 0
          have el := blk_frozen al.out 1
          go_wp2
          repeat (go_quiet (fail); try go_wp2)
          go_ret
          exact ⟨by first | rfl | (simp [errW_none, errW_some] <;> rfl) | (simp [*, errW_none, errW_some] <;> rfl), by repeat (first | (with_reducible first | exact HB.out | apply below_alloc | apply pw_below_drewN | apply below_drew1 | refine below_set ?_ aE.out | refine below_set ?_ aK.out) | exact HB.out)⟩
def elect_Known_Live.f (ae : ByteArray) (af : Int) (ag : Int) (ac : Bool) (ad : Bool) (ah : Int) (ai : Int) (aj : Int) (ak : Int) : Option (Bool) := if ad = true then (some (!ac)) else (some false)
set_option maxHeartbeats 8000000 in
set_option maxRecDepth 100000 in
theorem elect_Known_Live.calls (ae : ByteArray) (af : Int) (ag : Int) (ac : Bool) (ad : Bool) (ah : Int) (ai : Int) (aj : Int) (ak : Int) (r : Bool) (w : World) (h : elect_Known_Live.f ae af ag ac ad ah ai aj ak = some r) :
  Calls Try.prog 30 #[.agg #[.string ae, .int .i64 af, .int .i64 ag, .bool ac, .bool ad, .int .i64 ah, .int .i64 ai, .int .i64 aj, .int .i64 ak]] w fun e w' => e = .returned (.bool r) ∧ Below w.heap.size w w' := by
 have hu30 := Try.underlying30
 have HB := Aside0.mk (Below.refl w.heap.size w)
 have H : (if ad = true then (some (!ac)) else (some false)) = some r := h
 clear h
 by_cases c2 : ad = true
 ·
  subst c2
  have H1 : (some (!ac)) = some r := by rw [if_pos rfl] at H; exact H
  clear H
  have H := H1
  clear H1
  obtain rfl := Option.some.inj H
  go_enter Try.func30, Try.ntmps30
  go_wp2_with (first | ((with_reducible refine gate_dst (N := 1) rfl ?_); refine box_event ?hg (N := 1) ?hd (cs := #[.string ae, .int .i64 af, .int .i64 ag, .bool ac, .bool true, .int .i64 ah, .int .i64 ai, .int .i64 aj, .int .i64 ak]) (t := 30) ?hr ?_; (case hd => rfl); (case hg => rfl); (case hr => first | (go_simp; done) | (go_simp; rfl)); intro aD hg w3 hbox hb; have n0_ := Aside0.mk (below_step (by repeat (first | (with_reducible first | exact HB.out | apply below_alloc | apply pw_below_drewN | apply below_drew1) | exact HB.out)) hb); have n1_ := Aside0.mk (hbox); have n2_ := Aside0.mk ((by rw [hg]; exact (below_size (by repeat (first | (with_reducible first | exact HB.out | apply below_alloc | apply pw_below_drewN | apply below_drew1) | exact HB.out))) : w.heap.size ≤ aD)); have n3_ := Aside0.mk ((by rw [hg]; exact (below_size (by repeat (first | (with_reducible first | exact HB.out | apply below_alloc | apply pw_below_drewN | apply below_drew1) | exact HB.out))) : w.heap.size ≤ aD)); clear HB; have HB := n0_; have aw := n1_; have GW214 := n2_; have bB := n3_; clear n0_ n1_ n2_ n3_; clear hb hbox hg; have em : w3.cell? ⟨aD, 0, none⟩ = some (.string ae) := (blk_cell aw.out 0).trans rfl; have en : w3.cell? ⟨aD, 1, none⟩ = some (.int .i64 af) := (blk_cell aw.out 1).trans rfl; have eo : w3.cell? ⟨aD, 2, none⟩ = some (.int .i64 ag) := (blk_cell aw.out 2).trans rfl; have ep : w3.cell? ⟨aD, 3, none⟩ = some (.bool ac) := (blk_cell aw.out 3).trans rfl; have eq : w3.cell? ⟨aD, 4, none⟩ = some (.bool true) := (blk_cell aw.out 4).trans rfl; have er : w3.cell? ⟨aD, 5, none⟩ = some (.int .i64 ah) := (blk_cell aw.out 5).trans rfl; have es : w3.cell? ⟨aD, 6, none⟩ = some (.int .i64 ai) := (blk_cell aw.out 6).trans rfl; have et : w3.cell? ⟨aD, 7, none⟩ = some (.int .i64 aj) := (blk_cell aw.out 7).trans rfl; have eu : w3.cell? ⟨aD, 8, none⟩ = some (.int .i64 ak) := (blk_cell aw.out 8).trans rfl; have ev := blk_frozen aw.out 0; have ew := blk_frozen aw.out 1; have ex := blk_frozen aw.out 2; have ey := blk_frozen aw.out 3; have ez := blk_frozen aw.out 4; have eA := blk_frozen aw.out 5; have eB := blk_frozen aw.out 6; have eC := blk_frozen aw.out 7; have eD := blk_frozen aw.out 8))
  go_ret
  exact ⟨by first | rfl | (simp [errW_none, errW_some] <;> rfl) | (simp [*, errW_none, errW_some] <;> rfl), by repeat (first | (with_reducible first | exact HB.out | apply below_alloc | apply pw_below_drewN | apply below_drew1 | refine below_set ?_ bB.out) | exact HB.out)⟩
 ·
  replace c2 := Bool.eq_false_iff.mpr c2
  subst c2
  have H1 : (some false) = some r := by rw [if_neg (show ¬ (false = true) by decide)] at H; exact H
  clear H
  have H := H1
  clear H1
  obtain rfl := Option.some.inj H
  go_enter Try.func30, Try.ntmps30
  go_wp2_with (first | ((with_reducible refine gate_dst (N := 1) rfl ?_); refine box_event ?hg (N := 1) ?hd (cs := #[.string ae, .int .i64 af, .int .i64 ag, .bool ac, .bool false, .int .i64 ah, .int .i64 ai, .int .i64 aj, .int .i64 ak]) (t := 30) ?hr ?_; (case hd => rfl); (case hg => rfl); (case hr => first | (go_simp; done) | (go_simp; rfl)); intro aD hg w5 hbox hb; have n0_ := Aside0.mk (below_step (by repeat (first | (with_reducible first | exact HB.out | apply below_alloc | apply pw_below_drewN | apply below_drew1) | exact HB.out)) hb); have n1_ := Aside0.mk (hbox); have n2_ := Aside0.mk ((by rw [hg]; exact (below_size (by repeat (first | (with_reducible first | exact HB.out | apply below_alloc | apply pw_below_drewN | apply below_drew1) | exact HB.out))) : w.heap.size ≤ aD)); have n3_ := Aside0.mk ((by rw [hg]; exact (below_size (by repeat (first | (with_reducible first | exact HB.out | apply below_alloc | apply pw_below_drewN | apply below_drew1) | exact HB.out))) : w.heap.size ≤ aD)); clear HB; have HB := n0_; have aw := n1_; have GW214 := n2_; have bB := n3_; clear n0_ n1_ n2_ n3_; clear hb hbox hg; have eE : w5.cell? ⟨aD, 0, none⟩ = some (.string ae) := (blk_cell aw.out 0).trans rfl; have eF : w5.cell? ⟨aD, 1, none⟩ = some (.int .i64 af) := (blk_cell aw.out 1).trans rfl; have eG : w5.cell? ⟨aD, 2, none⟩ = some (.int .i64 ag) := (blk_cell aw.out 2).trans rfl; have eH : w5.cell? ⟨aD, 3, none⟩ = some (.bool ac) := (blk_cell aw.out 3).trans rfl; have eI : w5.cell? ⟨aD, 4, none⟩ = some (.bool false) := (blk_cell aw.out 4).trans rfl; have eJ : w5.cell? ⟨aD, 5, none⟩ = some (.int .i64 ah) := (blk_cell aw.out 5).trans rfl; have eK : w5.cell? ⟨aD, 6, none⟩ = some (.int .i64 ai) := (blk_cell aw.out 6).trans rfl; have eL : w5.cell? ⟨aD, 7, none⟩ = some (.int .i64 aj) := (blk_cell aw.out 7).trans rfl; have eM : w5.cell? ⟨aD, 8, none⟩ = some (.int .i64 ak) := (blk_cell aw.out 8).trans rfl; have eN := blk_frozen aw.out 0; have eO := blk_frozen aw.out 1; have eP := blk_frozen aw.out 2; have eQ := blk_frozen aw.out 3; have eR := blk_frozen aw.out 4; have eS := blk_frozen aw.out 5; have eT := blk_frozen aw.out 6; have eU := blk_frozen aw.out 7; have eV := blk_frozen aw.out 8))
  go_ret
  exact ⟨by first | rfl | (simp [errW_none, errW_some] <;> rfl) | (simp [*, errW_none, errW_some] <;> rfl), by repeat (first | (with_reducible first | exact HB.out | apply below_alloc | apply pw_below_drewN | apply below_drew1 | refine below_set ?_ bB.out) | exact HB.out)⟩
end Go.Proofs.Ytobanhbjkomieaa.PEl
