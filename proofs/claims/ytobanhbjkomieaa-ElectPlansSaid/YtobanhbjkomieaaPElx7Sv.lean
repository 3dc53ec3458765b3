import Derived.Test.YtobanhbjkomieaaPElx0Sv
import Derived.Test.YtobanhbjkomieaaPElx3Sv
import Derived.Test.YtobanhbjkomieaaPElx4Sv
namespace Go.Proofs.Ytobanhbjkomieaa.PEl
open Go.RowKit Go.Proofs.YtobanhbjkomieaaW.PrintWords Go.Proofs.YtobanhbjkomieaaW.PrintLast Go.Proofs.YtobanhbjkomieaaW.PrintMore
attribute [local go_sem] max2_int min2_int max_two min_two max_three min_three max_four min_four   -- for this text's walks alone
set_option linter.unusedVariables false
set_option linter.unusedSimpArgs false
def batonref20_Bury.j0 : Nat → ByteArray → ByteArray → Int → Bool → ByteArray → Int → Int → Bool → Bool → Int → Int → Int → Int → Option ((List (S73)) × (List (S85)) × Int)
 | 0, _, _, _, _, _, _, _, _, _, _, _, _, _ => none
 | k + 1, x1, x2, x3, x36, aV, aW, aZ, a0, a4, a5, aX, aY, a6 => if x36 = true then (some (([] : List (S73)), ([] : List (S85)), 46)) else ((batonref20_conds.f aV aW aZ a0 a4 a5 aX aY a6 x1 x2 true).bind fun aA => ((batonref20_puts.f x1 x2 aV aW x3 true).bind fun aC => ((batonref20_putsTenant.f x1 (wrap64 (aX - 1)) aY).bind fun ay => (some (aA, (([(⟨aC.1, aC.2.1, aC.2.2⟩ : S85), (⟨ay.1, ay.2.1, ay.2.2⟩ : S85)] : List (S85))), 0)))))
def batonref20_Bury.f (k : Nat) (ad : ByteArray) (ae : Int) (ag : Int) (ah : Bool) (ai : Bool) (aj : Int) (ac : Int) (af : Int) (ak : Int) (a1 : ByteArray) (a2 : ByteArray) (a3 : Int) : Option ((List (S73)) × (List (S85)) × Int) := (batonref20_wrong.f a1 a2 a3).bind fun aO => (if aO = true then (some (([] : List (S73)), ([] : List (S85)), 1)) else ((batonref20_May.f k ad ae ag ah ai aj ac af ak).bind fun aF => (if aF = true then ((batonref20_Live.f ad ae ag ah ai aj ac af ak).bind fun az => (if az = true then (if a3 ≤ ag then (batonref20_Bury.j0 k a1 a2 a3 true ad ae ag ah ai aj ac af ak) else (batonref20_Bury.j0 k a1 a2 a3 (ac == 0) ad ae ag ah ai aj ac af ak)) else (batonref20_Bury.j0 k a1 a2 a3 true ad ae ag ah ai aj ac af ak))) else (some (([] : List (S73)), ([] : List (S85)), 4)))))
def batonref20_Bury.T12 : Bool × List (List Nat × List Nat) := (true, [([], []), ([], []), ([], []), ([0, 1, 2], [0, 1, 2]), ([], []), ([], []), ([], []), ([4, 5, 6, 3], [4, 5, 6]), ([], []), ([], []), ([8, 9, 7], [8, 9]), ([7, 10], [7, 10]), ([3, 11], [3, 11]), ([12, 10, 0, 1, 2, 3, 4, 5, 6, 7, 8, 9, 10, 11, 12], [12]), ([13, 0, 1, 2, 3, 4, 5, 6, 7, 8, 9, 10, 11, 12, 13], [])])
def batonref20_Bury.B12 : List Nat := [0, 0, 0, 7, 0, 0, 0, 127, 0, 0, 1023, 2047, 4095, 8191, 16383]
theorem batonref20_Bury.tab12 : rtab .any (opsOf Try.f35 12) = batonref20_Bury.T12 := by kernel_rfl
theorem batonref20_Bury.bits12 : waitsOk batonref20_Bury.T12.2 batonref20_Bury.B12 = true := by kernel_rfl
set_option maxHeartbeats 8000000 in
set_option maxRecDepth 100000 in
theorem batonref20_Bury.calls (k : Nat) (ad : ByteArray) (ae : Int) (ag : Int) (ah : Bool) (ai : Bool) (aj : Int) (ac : Int) (af : Int) (ak : Int) (a1 : ByteArray) (a2 : ByteArray) (a3 : Int) (r1 : List (S73)) (r2 : List (S85)) (r3 : Int) (w : World) (h : batonref20_Bury.f k ad ae ag ah ai aj ac af ak a1 a2 a3 = some (r1, r2, r3)) :
  Calls Try.prog 35 #[.agg #[.string ad, .int .i64 ae, .int .i64 ag, .bool ah, .bool ai, .int .i64 aj, .int .i64 ac, .int .i64 af, .int .i64 ak], .string a1, .string a2, .int .i64 a3] w fun e w' => ∃ v0_ v1_ : Value, e = .returned (.tuple #[.agg #[v0_, v1_], .int .i64 r3]) ∧ Kd.R k73 73 w' w.heap.size (fun _ => True) v0_ r1 ∧ Kd.R k85 85 w' w.heap.size (fun _ => True) v1_ r2 ∧ Below w.heap.size w w' := by
 have hu27 := Try.underlying27
 have hu34 := Try.underlying34
 have hu23 := Try.underlying23
 have hu25 := Try.underlying25
 have HB := Aside0.mk (Below.refl w.heap.size w)
 have H : ((batonref20_wrong.f a1 a2 a3).bind fun aO => (if aO = true then (some (([] : List (S73)), ([] : List (S85)), 1)) else ((batonref20_May.f k ad ae ag ah ai aj ac af ak).bind fun aF => (if aF = true then ((batonref20_Live.f ad ae ag ah ai aj ac af ak).bind fun az => (if az = true then (if a3 ≤ ag then (batonref20_Bury.j0 k a1 a2 a3 true ad ae ag ah ai aj ac af ak) else (batonref20_Bury.j0 k a1 a2 a3 (ac == 0) ad ae ag ah ai aj ac af ak)) else (batonref20_Bury.j0 k a1 a2 a3 true ad ae ag ah ai aj ac af ak))) else (some (([] : List (S73)), ([] : List (S85)), 4)))))) = some (r1, r2, r3) := h
 clear h
 replace H := Option.bind_eq_some_iff.mp H
 obtain ⟨aO, A50, H⟩ := H
 replace H : (if aO = true then (some (([] : List (S73)), ([] : List (S85)), 1)) else ((batonref20_May.f k ad ae ag ah ai aj ac af ak).bind fun aF => (if aF = true then ((batonref20_Live.f ad ae ag ah ai aj ac af ak).bind fun az => (if az = true then (if a3 ≤ ag then (batonref20_Bury.j0 k a1 a2 a3 true ad ae ag ah ai aj ac af ak) else (batonref20_Bury.j0 k a1 a2 a3 (ac == 0) ad ae ag ah ai aj ac af ak)) else (batonref20_Bury.j0 k a1 a2 a3 true ad ae ag ah ai aj ac af ak))) else (some (([] : List (S73)), ([] : List (S85)), 4))))) = some (r1, r2, r3) := H
 have A5 := Aside0.mk A50
 clear A50
 by_cases c6 : aO = true
 ·
  subst c6
  have H1 : (some (([] : List (S73)), ([] : List (S85)), 1)) = some (r1, r2, r3) := by rw [if_pos rfl] at H; exact H
  clear H
  have H := H1
  clear H1
  simp only [Option.some.injEq, Prod.mk.injEq] at H
  obtain ⟨rfl, rfl, rfl⟩ := H
  go_enter Try.func35, Try.ntmps35
  go_wp2_with (first | ((with_reducible refine gate_dst (N := 4) rfl ?_); refine box_event ?hg (N := 4) ?hd (cs := #[.string ad, .int .i64 ae, .int .i64 ag, .bool ah, .bool ai, .int .i64 aj, .int .i64 ac, .int .i64 af, .int .i64 ak]) (t := 27) ?hr ?_; (case hd => rfl); (case hg => rfl); (case hr => first | (go_simp; done) | (go_simp; rfl)); intro ab hg w7 hbox hb; have n0_ := Aside0.mk (below_step (by repeat (first | (with_reducible first | exact HB.out | apply below_alloc | apply pw_below_drewN | apply below_drew1) | exact HB.out)) hb); have n1_ := Aside0.mk (hbox); have n2_ := Aside0.mk ((by rw [hg]; exact (below_size (by repeat (first | (with_reducible first | exact HB.out | apply below_alloc | apply pw_below_drewN | apply below_drew1) | exact HB.out))) : w.heap.size ≤ ab)); have n3_ := Aside0.mk ((by rw [hg]; exact (below_size (by repeat (first | (with_reducible first | exact HB.out | apply below_alloc | apply pw_below_drewN | apply below_drew1) | exact HB.out))) : w.heap.size ≤ ab)); clear HB; have HB := n0_; have aa := n1_; have GW178 := n2_; have ao := n3_; clear n0_ n1_ n2_ n3_; clear hb hbox hg) | ((with_reducible refine gate_dst (N := 8) rfl ?_); refine box_event ?hg (N := 8) ?hd (cs := #[.slice none 0 0, .slice none 0 0]) (t := 34) ?hr ?_; (case hd => rfl); (case hg => rfl); (case hr => first | (go_simp; done) | (go_simp; rfl)); intro al hg w8 hbox hb; have n0_ := Aside0.mk (blk_below (g := ab) (o := .cells #[.string ad, .int .i64 ae, .int .i64 ag, .bool ah, .bool ai, .int .i64 aj, .int .i64 ac, .int .i64 af, .int .i64 ak] 27 (0, 0)) (by (with_reducible repeat (first | refine blk_drewN ?_ _ | refine blk_drew ?_ | refine blk_alloc ?_ _)); exact aa.out) hb); have n1_ := Aside0.mk (below_step (by repeat (first | (with_reducible first | exact HB.out | apply below_alloc | apply pw_below_drewN | apply below_drew1 | refine below_set ?_ ao.out) | exact HB.out)) hb); have n2_ := Aside0.mk (hbox); have n3_ := Aside0.mk ((by rw [hg]; exact (below_size (by repeat (first | (with_reducible first | exact HB.out | apply below_alloc | apply pw_below_drewN | apply below_drew1 | refine below_set ?_ ao.out) | exact HB.out))) : w.heap.size ≤ al)); have n4_ := Aside0.mk ((by rw [hg]; exact (below_size (by repeat (first | (with_reducible first | exact HB.out | apply below_alloc | apply pw_below_drewN | apply below_drew1 | refine below_set ?_ ao.out) | exact HB.out))) : w.heap.size ≤ al)); have n5_ := Aside0.mk ((by rw [hg]; exact Nat.ne_of_lt (blk_lt (g := ab) (o := .cells #[.string ad, .int .i64 ae, .int .i64 ag, .bool ah, .bool ai, .int .i64 aj, .int .i64 ac, .int .i64 af, .int .i64 ak] 27 (0, 0)) (by (with_reducible repeat (first | refine blk_drewN ?_ _ | refine blk_drew ?_ | refine blk_alloc ?_ _)); exact aa.out)) : ab ≠ al)); have n6_ := Aside0.mk ((by rw [hg]; exact Nat.ne_of_gt (blk_lt (g := ab) (o := .cells #[.string ad, .int .i64 ae, .int .i64 ag, .bool ah, .bool ai, .int .i64 aj, .int .i64 ac, .int .i64 af, .int .i64 ak] 27 (0, 0)) (by (with_reducible repeat (first | refine blk_drewN ?_ _ | refine blk_drew ?_ | refine blk_alloc ?_ _)); exact aa.out)) : al ≠ ab)); clear aa; clear HB; have aa := n0_; have HB := n1_; have am := n2_; have GW179 := n3_; have au := n4_; have ar := n5_; have aB := n6_; clear n0_ n1_ n2_ n3_ n4_ n5_ n6_; clear hb hbox hg) | ((with_reducible refine gate_callee (f := 109) rfl ?_); refine goesL_ (some 15) rfl rfl Try.func109 (by kernel_rfl) rfl #[.string a1, .string a2, .int .i64 a3] rfl (by (try simp only [List.map_toArray, List.map_cons, List.map_nil]); first | done | rfl | (simp only [List.length_drop, List.length_take]; rfl)) ?_; (with_reducible refine (batonref20_wrong.calls a1 a2 a3 true _ A5.out).mono ?_); rintro e w' ⟨rfl, ⟨nd, rfl⟩⟩; refine ⟨_, rfl, ?_⟩; (try (rw [drewN_self w8]; generalize hq_ : World.drewN w8 _ = w8; have n0_ : Aside0 (w8.heap[ab]? = some (.cells #[.string ad, .int .i64 ae, .int .i64 ag, .bool ah, .bool ai, .int .i64 aj, .int .i64 ac, .int .i64 af, .int .i64 ak] 27 (0, 0))) := ⟨by rw [← hq_]; exact (by (with_reducible repeat (first | refine blk_drewN ?_ _ | refine blk_drew ?_ | refine blk_alloc ?_ _)); exact aa.out)⟩; have n1_ : Aside0 (w8.heap[al]? = some (.cells #[.slice none 0 0, .slice none 0 0] 34 (0, 0))) := ⟨by rw [← hq_]; exact (by (with_reducible repeat (first | refine blk_drewN ?_ _ | refine blk_drew ?_ | refine blk_alloc ?_ _)); exact am.out)⟩; have n2_ : Aside0 (Below w.heap.size w w8) := ⟨by rw [← hq_]; exact (by repeat (first | (with_reducible first | exact HB.out | apply below_alloc | apply pw_below_drewN | apply below_drew1 | refine below_set ?_ ao.out | refine below_set ?_ au.out) | exact HB.out))⟩; clear aa am HB hq_; have aa := n0_; have am := n1_; have HB := n2_; clear n0_ n1_ n2_)); have c0 := aB.out; have c4 := ar.out; have a7 : w8.cell? ⟨al, 0, none⟩ = some (.slice none 0 0) := (blk_cell am.out 0).trans rfl; have a8 : w8.cell? ⟨al, 1, none⟩ = some (.slice none 0 0) := (blk_cell am.out 1).trans rfl; have a9 := blk_frozen am.out 0; have ba := blk_frozen am.out 1))
  refine bodyPost_ret (results_ct rfl _ _ al 34 #[.slice none 0 0, .slice none 0 0] (0, 0) _ rfl (by (with_reducible repeat (first | refine blk_drewN ?_ _ | refine blk_drew ?_ | refine blk_alloc ?_ _)); refine blk_put (cs := #[.slice none 0 0, .slice none 0 0]) ?_ 1 _ rfl; (with_reducible repeat (first | refine blk_drewN ?_ _ | refine blk_drew ?_ | refine blk_alloc ?_ _)); refine blk_put (cs := #[.slice none 0 0, .slice none 0 0]) ?_ 0 _ rfl; (with_reducible repeat (first | refine blk_drewN ?_ _ | refine blk_drew ?_ | refine blk_alloc ?_ _)); exact am.out) Try.underlying34 rfl (by kernel_rfl)) rfl ?_
  exact ⟨_, _, by first | rfl | (simp [errW_none, errW_some] <;> rfl) | (simp [*, errW_none, errW_some] <;> rfl), by first | exact Kd.R_nil _ _ _ _ _ | exact Kd.N_nil _ _ _ _ _ | exact Kd.V_nil _ _ _ _ _ | exact Kd.Q_nil _ _ _ _ _ | exact Kd.S_nil _ _ _ _ _, by first | exact Kd.R_nil _ _ _ _ _ | exact Kd.N_nil _ _ _ _ _ | exact Kd.V_nil _ _ _ _ _ | exact Kd.Q_nil _ _ _ _ _ | exact Kd.S_nil _ _ _ _ _, by repeat (first | (with_reducible first | exact HB.out | apply below_alloc | apply pw_below_drewN | apply below_drew1 | refine below_set ?_ ao.out | refine below_set ?_ au.out) | exact HB.out)⟩
 ·
  replace c6 := Bool.eq_false_iff.mpr c6
  subst c6
  have H1 : ((batonref20_May.f k ad ae ag ah ai aj ac af ak).bind fun aF => (if aF = true then ((batonref20_Live.f ad ae ag ah ai aj ac af ak).bind fun az => (if az = true then (if a3 ≤ ag then (batonref20_Bury.j0 k a1 a2 a3 true ad ae ag ah ai aj ac af ak) else (batonref20_Bury.j0 k a1 a2 a3 (ac == 0) ad ae ag ah ai aj ac af ak)) else (batonref20_Bury.j0 k a1 a2 a3 true ad ae ag ah ai aj ac af ak))) else (some (([] : List (S73)), ([] : List (S85)), 4)))) = some (r1, r2, r3) := by rw [if_neg (show ¬ (false = true) by decide)] at H; exact H
  clear H
  have H := H1
  clear H1
  replace H := Option.bind_eq_some_iff.mp H
  obtain ⟨aF, A110, H⟩ := H
  replace H : (if aF = true then ((batonref20_Live.f ad ae ag ah ai aj ac af ak).bind fun az => (if az = true then (if a3 ≤ ag then (batonref20_Bury.j0 k a1 a2 a3 true ad ae ag ah ai aj ac af ak) else (batonref20_Bury.j0 k a1 a2 a3 (ac == 0) ad ae ag ah ai aj ac af ak)) else (batonref20_Bury.j0 k a1 a2 a3 true ad ae ag ah ai aj ac af ak))) else (some (([] : List (S73)), ([] : List (S85)), 4))) = some (r1, r2, r3) := H
  have A11 := Aside0.mk A110
  clear A110
  by_cases c12 : aF = true
  ·
   subst c12
   have H1 : ((batonref20_Live.f ad ae ag ah ai aj ac af ak).bind fun az => (if az = true then (if a3 ≤ ag then (batonref20_Bury.j0 k a1 a2 a3 true ad ae ag ah ai aj ac af ak) else (batonref20_Bury.j0 k a1 a2 a3 (ac == 0) ad ae ag ah ai aj ac af ak)) else (batonref20_Bury.j0 k a1 a2 a3 true ad ae ag ah ai aj ac af ak))) = some (r1, r2, r3) := by rw [if_pos rfl] at H; exact H
   clear H
   have H := H1
   clear H1
   have aU := Aside0.mk H
   clear H
   go_enter Try.func35, Try.ntmps35
   go_upto_region 5 with (first | ((with_reducible refine gate_dst (N := 4) rfl ?_); refine box_event ?hg (N := 4) ?hd (cs := #[.string ad, .int .i64 ae, .int .i64 ag, .bool ah, .bool ai, .int .i64 aj, .int .i64 ac, .int .i64 af, .int .i64 ak]) (t := 27) ?hr ?_; (case hd => rfl); (case hg => rfl); (case hr => first | (go_simp; done) | (go_simp; rfl)); intro ab hg w14 hbox hb; have n0_ := Aside0.mk (below_step (by repeat (first | (with_reducible first | exact HB.out | apply below_alloc | apply pw_below_drewN | apply below_drew1) | exact HB.out)) hb); have n1_ := Aside0.mk (hbox); have n2_ := Aside0.mk ((by rw [hg]; exact (below_size (by repeat (first | (with_reducible first | exact HB.out | apply below_alloc | apply pw_below_drewN | apply below_drew1) | exact HB.out))) : w.heap.size ≤ ab)); have n3_ := Aside0.mk ((by rw [hg]; exact (below_size (by repeat (first | (with_reducible first | exact HB.out | apply below_alloc | apply pw_below_drewN | apply below_drew1) | exact HB.out))) : w.heap.size ≤ ab)); clear HB; have HB := n0_; have aa := n1_; have GW178 := n2_; have ao := n3_; clear n0_ n1_ n2_ n3_; clear hb hbox hg) | ((with_reducible refine gate_dst (N := 8) rfl ?_); refine box_event ?hg (N := 8) ?hd (cs := #[.slice none 0 0, .slice none 0 0]) (t := 34) ?hr ?_; (case hd => rfl); (case hg => rfl); (case hr => first | (go_simp; done) | (go_simp; rfl)); intro al hg w15 hbox hb; have n0_ := Aside0.mk (blk_below (g := ab) (o := .cells #[.string ad, .int .i64 ae, .int .i64 ag, .bool ah, .bool ai, .int .i64 aj, .int .i64 ac, .int .i64 af, .int .i64 ak] 27 (0, 0)) (by (with_reducible repeat (first | refine blk_drewN ?_ _ | refine blk_drew ?_ | refine blk_alloc ?_ _)); exact aa.out) hb); have n1_ := Aside0.mk (below_step (by repeat (first | (with_reducible first | exact HB.out | apply below_alloc | apply pw_below_drewN | apply below_drew1 | refine below_set ?_ ao.out) | exact HB.out)) hb); have n2_ := Aside0.mk (hbox); have n3_ := Aside0.mk ((by rw [hg]; exact (below_size (by repeat (first | (with_reducible first | exact HB.out | apply below_alloc | apply pw_below_drewN | apply below_drew1 | refine below_set ?_ ao.out) | exact HB.out))) : w.heap.size ≤ al)); have n4_ := Aside0.mk ((by rw [hg]; exact (below_size (by repeat (first | (with_reducible first | exact HB.out | apply below_alloc | apply pw_below_drewN | apply below_drew1 | refine below_set ?_ ao.out) | exact HB.out))) : w.heap.size ≤ al)); have n5_ := Aside0.mk ((by rw [hg]; exact Nat.ne_of_lt (blk_lt (g := ab) (o := .cells #[.string ad, .int .i64 ae, .int .i64 ag, .bool ah, .bool ai, .int .i64 aj, .int .i64 ac, .int .i64 af, .int .i64 ak] 27 (0, 0)) (by (with_reducible repeat (first | refine blk_drewN ?_ _ | refine blk_drew ?_ | refine blk_alloc ?_ _)); exact aa.out)) : ab ≠ al)); have n6_ := Aside0.mk ((by rw [hg]; exact Nat.ne_of_gt (blk_lt (g := ab) (o := .cells #[.string ad, .int .i64 ae, .int .i64 ag, .bool ah, .bool ai, .int .i64 aj, .int .i64 ac, .int .i64 af, .int .i64 ak] 27 (0, 0)) (by (with_reducible repeat (first | refine blk_drewN ?_ _ | refine blk_drew ?_ | refine blk_alloc ?_ _)); exact aa.out)) : al ≠ ab)); clear aa; clear HB; have aa := n0_; have HB := n1_; have am := n2_; have GW179 := n3_; have au := n4_; have ar := n5_; have aB := n6_; clear n0_ n1_ n2_ n3_ n4_ n5_ n6_; clear hb hbox hg) | ((with_reducible refine gate_callee (f := 109) rfl ?_); refine goesL_ (some 15) rfl rfl Try.func109 (by kernel_rfl) rfl #[.string a1, .string a2, .int .i64 a3] rfl (by (try simp only [List.map_toArray, List.map_cons, List.map_nil]); first | done | rfl | (simp only [List.length_drop, List.length_take]; rfl)) ?_; (with_reducible refine (batonref20_wrong.calls a1 a2 a3 false _ A5.out).mono ?_); rintro e w' ⟨rfl, ⟨nd, rfl⟩⟩; refine ⟨_, rfl, ?_⟩; have c5 := ar.out; have c7 := aB.out; have bb : w15.cell? ⟨ab, 0, none⟩ = some (.string ad) := (blk_cell aa.out 0).trans rfl; have bc : w15.cell? ⟨ab, 1, none⟩ = some (.int .i64 ae) := (blk_cell aa.out 1).trans rfl; have bd : w15.cell? ⟨ab, 2, none⟩ = some (.int .i64 ag) := (blk_cell aa.out 2).trans rfl; have be : w15.cell? ⟨ab, 3, none⟩ = some (.bool ah) := (blk_cell aa.out 3).trans rfl; have bf : w15.cell? ⟨ab, 4, none⟩ = some (.bool ai) := (blk_cell aa.out 4).trans rfl; have bg : w15.cell? ⟨ab, 5, none⟩ = some (.int .i64 aj) := (blk_cell aa.out 5).trans rfl; have bh : w15.cell? ⟨ab, 6, none⟩ = some (.int .i64 ac) := (blk_cell aa.out 6).trans rfl; have bi : w15.cell? ⟨ab, 7, none⟩ = some (.int .i64 af) := (blk_cell aa.out 7).trans rfl; have bj : w15.cell? ⟨ab, 8, none⟩ = some (.int .i64 ak) := (blk_cell aa.out 8).trans rfl; have bk := blk_frozen aa.out 0; have bl := blk_frozen aa.out 1; have bm := blk_frozen aa.out 2; have bn := blk_frozen aa.out 3; have bo := blk_frozen aa.out 4; have bp := blk_frozen aa.out 5; have bq := blk_frozen aa.out 6; have br := blk_frozen aa.out 7; have bs := blk_frozen aa.out 8) | ((with_reducible refine gate_callee (f := 29) rfl ?_); refine goesL_ (some 18) rfl rfl Try.func29 (by kernel_rfl) rfl #[.agg #[.string ad, .int .i64 ae, .int .i64 ag, .bool ah, .bool ai, .int .i64 aj, .int .i64 ac, .int .i64 af, .int .i64 ak]] rfl (by (try simp only [List.map_toArray, List.map_cons, List.map_nil]); first | done | rfl | (simp only [List.length_drop, List.length_take]; rfl)) ?_; (with_reducible refine (batonref20_May.calls k ad ae ag ah ai aj ac af ak true _ A11.out).mono ?_); rintro e w18 ⟨rfl, hb⟩; refine ⟨_, rfl, ?_⟩; have n0_ := Aside0.mk (blk_below (g := ab) (o := .cells #[.string ad, .int .i64 ae, .int .i64 ag, .bool ah, .bool ai, .int .i64 aj, .int .i64 ac, .int .i64 af, .int .i64 ak] 27 (0, 0)) (by (with_reducible repeat (first | refine blk_drewN ?_ _ | refine blk_drew ?_ | refine blk_alloc ?_ _)); exact aa.out) hb); have n1_ := Aside0.mk (blk_below (g := al) (o := .cells #[.slice none 0 0, .slice none 0 0] 34 (0, 0)) (by (with_reducible repeat (first | refine blk_drewN ?_ _ | refine blk_drew ?_ | refine blk_alloc ?_ _)); exact am.out) hb); have n2_ := Aside0.mk (below_step (by repeat (first | (with_reducible first | exact HB.out | apply below_alloc | apply pw_below_drewN | apply below_drew1 | refine below_set ?_ ao.out | refine below_set ?_ au.out) | exact HB.out)) hb); clear aa; clear am; clear HB; have aa := n0_; have am := n1_; have HB := n2_; clear n0_ n1_ n2_; (try clear hb); (try clear hb2); (try clear hk); (try clear hi)))
   (try simp only [Act.put, List.setIfInBounds_toArray, List.set_cons_zero, List.set_cons_succ])
   go_cut [36] (fun v36 wc => ∃ (kq : Nat) (aQ : Bool), v36 = .bool aQ ∧ Aside0 (batonref20_Bury.j0 kq a1 a2 a3 aQ ad ae ag ah ai aj ac af ak = some (r1, r2, r3)) ∧ Aside0 (kq ≤ k) ∧ Aside0 (wc.heap[ab]? = some (.cells #[.string ad, .int .i64 ae, .int .i64 ag, .bool ah, .bool ai, .int .i64 aj, .int .i64 ac, .int .i64 af, .int .i64 ak] 27 (0, 0))) ∧ Aside0 (wc.heap[al]? = some (.cells #[(.slice none 0 0), (.slice none 0 0)] 34 (0, 0))) ∧ Aside0 (Below w.heap.size w wc))
   case first =>
    have H := aU.out
    clear aU
    replace H := Option.bind_eq_some_iff.mp H
    obtain ⟨az, A190, H⟩ := H
    replace H : (if az = true then (if a3 ≤ ag then (batonref20_Bury.j0 k a1 a2 a3 true ad ae ag ah ai aj ac af ak) else (batonref20_Bury.j0 k a1 a2 a3 (ac == 0) ad ae ag ah ai aj ac af ak)) else (batonref20_Bury.j0 k a1 a2 a3 true ad ae ag ah ai aj ac af ak)) = some (r1, r2, r3) := H
    have A19 := Aside0.mk A190
    clear A190
    by_cases c20 : az = true
    ·
     subst c20
     have H1 : (if a3 ≤ ag then (batonref20_Bury.j0 k a1 a2 a3 true ad ae ag ah ai aj ac af ak) else (batonref20_Bury.j0 k a1 a2 a3 (ac == 0) ad ae ag ah ai aj ac af ak)) = some (r1, r2, r3) := by rw [if_pos rfl] at H; exact H
     clear H
     have H := H1
     clear H1
     by_cases c21 : a3 ≤ ag
     ·
      rw [if_pos c21] at H
      have c21b0 : decide (a3 ≤ ag) = true := decide_eq_true c21
      clear c21
      (first | rw [c21b0] | (simp only [i64_w, i32_w]; rw [c21b0]) | skip)
      have H' := Aside0.mk H
      clear H
      have c8 := ar.out
      have da := aB.out
      have bt : w18.cell? ⟨ab, 0, none⟩ = some (.string ad) := (blk_cell aa.out 0).trans rfl
      have bu : w18.cell? ⟨ab, 1, none⟩ = some (.int .i64 ae) := (blk_cell aa.out 1).trans rfl
      have bv : w18.cell? ⟨ab, 2, none⟩ = some (.int .i64 ag) := (blk_cell aa.out 2).trans rfl
      have bw : w18.cell? ⟨ab, 3, none⟩ = some (.bool ah) := (blk_cell aa.out 3).trans rfl
      have bx : w18.cell? ⟨ab, 4, none⟩ = some (.bool ai) := (blk_cell aa.out 4).trans rfl
      have bz : w18.cell? ⟨ab, 5, none⟩ = some (.int .i64 aj) := (blk_cell aa.out 5).trans rfl
      have bA : w18.cell? ⟨ab, 6, none⟩ = some (.int .i64 ac) := (blk_cell aa.out 6).trans rfl
      have bB : w18.cell? ⟨ab, 7, none⟩ = some (.int .i64 af) := (blk_cell aa.out 7).trans rfl
      have bC : w18.cell? ⟨ab, 8, none⟩ = some (.int .i64 ak) := (blk_cell aa.out 8).trans rfl
      have bD := blk_frozen aa.out 0
      have bE := blk_frozen aa.out 1
      have bF := blk_frozen aa.out 2
      have bG := blk_frozen aa.out 3
      have bH := blk_frozen aa.out 4
      have bI := blk_frozen aa.out 5
      have bJ := blk_frozen aa.out 6
      have bK := blk_frozen aa.out 7
      have bL := blk_frozen aa.out 8
      go_wp2_with (first | ((with_reducible refine gate_callee (f := 31) rfl ?_); refine goesL_ (some 22) rfl rfl Try.func31 (by kernel_rfl) rfl #[.agg #[.string ad, .int .i64 ae, .int .i64 ag, .bool ah, .bool ai, .int .i64 aj, .int .i64 ac, .int .i64 af, .int .i64 ak]] rfl (by (try simp only [List.map_toArray, List.map_cons, List.map_nil]); first | done | rfl | (simp only [List.length_drop, List.length_take]; rfl)) ?_; (with_reducible refine (batonref20_Live.calls ad ae ag ah ai aj ac af ak true _ A19.out).mono ?_); rintro e w24 ⟨rfl, hb⟩; refine ⟨_, rfl, ?_⟩; have n0_ := Aside0.mk (blk_below (g := ab) (o := .cells #[.string ad, .int .i64 ae, .int .i64 ag, .bool ah, .bool ai, .int .i64 aj, .int .i64 ac, .int .i64 af, .int .i64 ak] 27 (0, 0)) (by (with_reducible repeat (first | refine blk_drewN ?_ _ | refine blk_drew ?_ | refine blk_alloc ?_ _)); exact aa.out) hb); have n1_ := Aside0.mk (blk_below (g := al) (o := .cells #[.slice none 0 0, .slice none 0 0] 34 (0, 0)) (by (with_reducible repeat (first | refine blk_drewN ?_ _ | refine blk_drew ?_ | refine blk_alloc ?_ _)); exact am.out) hb); have n2_ := Aside0.mk (below_step (by repeat (first | (with_reducible first | exact HB.out | apply below_alloc | apply pw_below_drewN | apply below_drew1 | refine below_set ?_ ao.out | refine below_set ?_ au.out) | exact HB.out)) hb); clear aa; clear am; clear HB; have aa := n0_; have am := n1_; have HB := n2_; clear n0_ n1_ n2_; (try clear hb); (try clear hb2); (try clear hk); (try clear hi); have bM : w24.cell? ⟨ab, 0, none⟩ = some (.string ad) := (blk_cell aa.out 0).trans rfl; have bN : w24.cell? ⟨ab, 1, none⟩ = some (.int .i64 ae) := (blk_cell aa.out 1).trans rfl; have bO : w24.cell? ⟨ab, 2, none⟩ = some (.int .i64 ag) := (blk_cell aa.out 2).trans rfl; have bP : w24.cell? ⟨ab, 3, none⟩ = some (.bool ah) := (blk_cell aa.out 3).trans rfl; have bQ : w24.cell? ⟨ab, 4, none⟩ = some (.bool ai) := (blk_cell aa.out 4).trans rfl; have bR : w24.cell? ⟨ab, 5, none⟩ = some (.int .i64 aj) := (blk_cell aa.out 5).trans rfl; have bS : w24.cell? ⟨ab, 6, none⟩ = some (.int .i64 ac) := (blk_cell aa.out 6).trans rfl; have bT : w24.cell? ⟨ab, 7, none⟩ = some (.int .i64 af) := (blk_cell aa.out 7).trans rfl; have bU : w24.cell? ⟨ab, 8, none⟩ = some (.int .i64 ak) := (blk_cell aa.out 8).trans rfl; have bV := blk_frozen aa.out 0; have bW := blk_frozen aa.out 1; have bX := blk_frozen aa.out 2; have bY := blk_frozen aa.out 3; have bZ := blk_frozen aa.out 4; have b0 := blk_frozen aa.out 5; have b1 := blk_frozen aa.out 6; have b2 := blk_frozen aa.out 7; have b3 := blk_frozen aa.out 8))
      go_meet
      case rel => exact ⟨_, (true), (by first | rfl | (simp; done) | (simp [*]; done)), H', ⟨by first | omega | exact Nat.le_refl _⟩, ⟨by (with_reducible repeat (first | refine blk_drewN ?_ _ | refine blk_drew ?_ | refine blk_alloc ?_ _)); exact aa.out⟩, ⟨by (with_reducible repeat (first | refine blk_drewN ?_ _ | refine blk_drew ?_ | refine blk_alloc ?_ _)); exact am.out⟩, ⟨by repeat (first | (with_reducible first | exact HB.out | apply below_alloc | apply pw_below_drewN | apply below_drew1 | refine below_set ?_ ao.out | refine below_set ?_ au.out) | exact HB.out)⟩⟩
     ·
      rw [if_neg c21] at H
      have c21b0 : decide (a3 ≤ ag) = false := decide_eq_false c21
      clear c21
      (first | rw [c21b0] | (simp only [i64_w, i32_w]; rw [c21b0]) | skip)
      have H' := Aside0.mk H
      clear H
      have db := ar.out
      have dc := aB.out
      have b4 : w18.cell? ⟨ab, 0, none⟩ = some (.string ad) := (blk_cell aa.out 0).trans rfl
      have b5 : w18.cell? ⟨ab, 1, none⟩ = some (.int .i64 ae) := (blk_cell aa.out 1).trans rfl
      have b6 : w18.cell? ⟨ab, 2, none⟩ = some (.int .i64 ag) := (blk_cell aa.out 2).trans rfl
      have b7 : w18.cell? ⟨ab, 3, none⟩ = some (.bool ah) := (blk_cell aa.out 3).trans rfl
      have b8 : w18.cell? ⟨ab, 4, none⟩ = some (.bool ai) := (blk_cell aa.out 4).trans rfl
      have b9 : w18.cell? ⟨ab, 5, none⟩ = some (.int .i64 aj) := (blk_cell aa.out 5).trans rfl
      have ca : w18.cell? ⟨ab, 6, none⟩ = some (.int .i64 ac) := (blk_cell aa.out 6).trans rfl
      have cb : w18.cell? ⟨ab, 7, none⟩ = some (.int .i64 af) := (blk_cell aa.out 7).trans rfl
      have cc : w18.cell? ⟨ab, 8, none⟩ = some (.int .i64 ak) := (blk_cell aa.out 8).trans rfl
      have cd := blk_frozen aa.out 0
      have ce := blk_frozen aa.out 1
      have cf := blk_frozen aa.out 2
      have cg := blk_frozen aa.out 3
      have ch := blk_frozen aa.out 4
      have ci := blk_frozen aa.out 5
      have cj := blk_frozen aa.out 6
      have ck := blk_frozen aa.out 7
      have cl := blk_frozen aa.out 8
      go_wp2_with (first | ((with_reducible refine gate_callee (f := 31) rfl ?_); refine goesL_ (some 22) rfl rfl Try.func31 (by kernel_rfl) rfl #[.agg #[.string ad, .int .i64 ae, .int .i64 ag, .bool ah, .bool ai, .int .i64 aj, .int .i64 ac, .int .i64 af, .int .i64 ak]] rfl (by (try simp only [List.map_toArray, List.map_cons, List.map_nil]); first | done | rfl | (simp only [List.length_drop, List.length_take]; rfl)) ?_; (with_reducible refine (batonref20_Live.calls ad ae ag ah ai aj ac af ak true _ A19.out).mono ?_); rintro e w28 ⟨rfl, hb⟩; refine ⟨_, rfl, ?_⟩; have n0_ := Aside0.mk (blk_below (g := ab) (o := .cells #[.string ad, .int .i64 ae, .int .i64 ag, .bool ah, .bool ai, .int .i64 aj, .int .i64 ac, .int .i64 af, .int .i64 ak] 27 (0, 0)) (by (with_reducible repeat (first | refine blk_drewN ?_ _ | refine blk_drew ?_ | refine blk_alloc ?_ _)); exact aa.out) hb); have n1_ := Aside0.mk (blk_below (g := al) (o := .cells #[.slice none 0 0, .slice none 0 0] 34 (0, 0)) (by (with_reducible repeat (first | refine blk_drewN ?_ _ | refine blk_drew ?_ | refine blk_alloc ?_ _)); exact am.out) hb); have n2_ := Aside0.mk (below_step (by repeat (first | (with_reducible first | exact HB.out | apply below_alloc | apply pw_below_drewN | apply below_drew1 | refine below_set ?_ ao.out | refine below_set ?_ au.out) | exact HB.out)) hb); clear aa; clear am; clear HB; have aa := n0_; have am := n1_; have HB := n2_; clear n0_ n1_ n2_; (try clear hb); (try clear hb2); (try clear hk); (try clear hi); have cm : w28.cell? ⟨ab, 0, none⟩ = some (.string ad) := (blk_cell aa.out 0).trans rfl; have cn : w28.cell? ⟨ab, 1, none⟩ = some (.int .i64 ae) := (blk_cell aa.out 1).trans rfl; have co : w28.cell? ⟨ab, 2, none⟩ = some (.int .i64 ag) := (blk_cell aa.out 2).trans rfl; have cp : w28.cell? ⟨ab, 3, none⟩ = some (.bool ah) := (blk_cell aa.out 3).trans rfl; have cq : w28.cell? ⟨ab, 4, none⟩ = some (.bool ai) := (blk_cell aa.out 4).trans rfl; have cr : w28.cell? ⟨ab, 5, none⟩ = some (.int .i64 aj) := (blk_cell aa.out 5).trans rfl; have ct : w28.cell? ⟨ab, 6, none⟩ = some (.int .i64 ac) := (blk_cell aa.out 6).trans rfl; have cu : w28.cell? ⟨ab, 7, none⟩ = some (.int .i64 af) := (blk_cell aa.out 7).trans rfl; have cv : w28.cell? ⟨ab, 8, none⟩ = some (.int .i64 ak) := (blk_cell aa.out 8).trans rfl; have cw := blk_frozen aa.out 0; have cx := blk_frozen aa.out 1; have cy := blk_frozen aa.out 2; have cz := blk_frozen aa.out 3; have cA := blk_frozen aa.out 4; have cB := blk_frozen aa.out 5; have cC := blk_frozen aa.out 6; have cD := blk_frozen aa.out 7; have cE := blk_frozen aa.out 8))
      go_meet
      case rel => exact ⟨_, ((ac == 0)), (by first | rfl | (simp; done) | (simp [*]; done)), H', ⟨by first | omega | exact Nat.le_refl _⟩, ⟨by (with_reducible repeat (first | refine blk_drewN ?_ _ | refine blk_drew ?_ | refine blk_alloc ?_ _)); exact aa.out⟩, ⟨by (with_reducible repeat (first | refine blk_drewN ?_ _ | refine blk_drew ?_ | refine blk_alloc ?_ _)); exact am.out⟩, ⟨by repeat (first | (with_reducible first | exact HB.out | apply below_alloc | apply pw_below_drewN | apply below_drew1 | refine below_set ?_ ao.out | refine below_set ?_ au.out) | exact HB.out)⟩⟩
    ·
     replace c20 := Bool.eq_false_iff.mpr c20
     subst c20
     have H1 : (batonref20_Bury.j0 k a1 a2 a3 true ad ae ag ah ai aj ac af ak) = some (r1, r2, r3) := by rw [if_neg (show ¬ (false = true) by decide)] at H; exact H
     clear H
     have H := H1
     clear H1
     have H' := Aside0.mk H
     clear H
     have dd := ar.out
     have de := aB.out
     have cF : w18.cell? ⟨ab, 0, none⟩ = some (.string ad) := (blk_cell aa.out 0).trans rfl
     have cG : w18.cell? ⟨ab, 1, none⟩ = some (.int .i64 ae) := (blk_cell aa.out 1).trans rfl
     have cH : w18.cell? ⟨ab, 2, none⟩ = some (.int .i64 ag) := (blk_cell aa.out 2).trans rfl
     have cI : w18.cell? ⟨ab, 3, none⟩ = some (.bool ah) := (blk_cell aa.out 3).trans rfl
     have cJ : w18.cell? ⟨ab, 4, none⟩ = some (.bool ai) := (blk_cell aa.out 4).trans rfl
     have cK : w18.cell? ⟨ab, 5, none⟩ = some (.int .i64 aj) := (blk_cell aa.out 5).trans rfl
     have cL : w18.cell? ⟨ab, 6, none⟩ = some (.int .i64 ac) := (blk_cell aa.out 6).trans rfl
     have cM : w18.cell? ⟨ab, 7, none⟩ = some (.int .i64 af) := (blk_cell aa.out 7).trans rfl
     have cN : w18.cell? ⟨ab, 8, none⟩ = some (.int .i64 ak) := (blk_cell aa.out 8).trans rfl
     have cO := blk_frozen aa.out 0
     have cP := blk_frozen aa.out 1
     have cQ := blk_frozen aa.out 2
     have cR := blk_frozen aa.out 3
     have cS := blk_frozen aa.out 4
     have cT := blk_frozen aa.out 5
     have cU := blk_frozen aa.out 6
     have cV := blk_frozen aa.out 7
     have cW := blk_frozen aa.out 8
     go_wp2_with (first | ((with_reducible refine gate_callee (f := 31) rfl ?_); refine goesL_ (some 22) rfl rfl Try.func31 (by kernel_rfl) rfl #[.agg #[.string ad, .int .i64 ae, .int .i64 ag, .bool ah, .bool ai, .int .i64 aj, .int .i64 ac, .int .i64 af, .int .i64 ak]] rfl (by (try simp only [List.map_toArray, List.map_cons, List.map_nil]); first | done | rfl | (simp only [List.length_drop, List.length_take]; rfl)) ?_; (with_reducible refine (batonref20_Live.calls ad ae ag ah ai aj ac af ak false _ A19.out).mono ?_); rintro e w32 ⟨rfl, hb⟩; refine ⟨_, rfl, ?_⟩; have n0_ := Aside0.mk (blk_below (g := ab) (o := .cells #[.string ad, .int .i64 ae, .int .i64 ag, .bool ah, .bool ai, .int .i64 aj, .int .i64 ac, .int .i64 af, .int .i64 ak] 27 (0, 0)) (by (with_reducible repeat (first | refine blk_drewN ?_ _ | refine blk_drew ?_ | refine blk_alloc ?_ _)); exact aa.out) hb); have n1_ := Aside0.mk (blk_below (g := al) (o := .cells #[.slice none 0 0, .slice none 0 0] 34 (0, 0)) (by (with_reducible repeat (first | refine blk_drewN ?_ _ | refine blk_drew ?_ | refine blk_alloc ?_ _)); exact am.out) hb); have n2_ := Aside0.mk (below_step (by repeat (first | (with_reducible first | exact HB.out | apply below_alloc | apply pw_below_drewN | apply below_drew1 | refine below_set ?_ ao.out | refine below_set ?_ au.out) | exact HB.out)) hb); clear aa; clear am; clear HB; have aa := n0_; have am := n1_; have HB := n2_; clear n0_ n1_ n2_; (try clear hb); (try clear hb2); (try clear hk); (try clear hi)))
     go_meet
     case rel => exact ⟨_, (true), (by first | rfl | (simp; done) | (simp [*]; done)), H', ⟨by first | omega | exact Nat.le_refl _⟩, ⟨by (with_reducible repeat (first | refine blk_drewN ?_ _ | refine blk_drew ?_ | refine blk_alloc ?_ _)); exact aa.out⟩, ⟨by (with_reducible repeat (first | refine blk_drewN ?_ _ | refine blk_drew ?_ | refine blk_alloc ?_ _)); exact am.out⟩, ⟨by repeat (first | (with_reducible first | exact HB.out | apply below_alloc | apply pw_below_drewN | apply below_drew1 | refine below_set ?_ ao.out | refine below_set ?_ au.out) | exact HB.out)⟩⟩
   case rest =>
    clear aU
    try clear c1
    try clear c2
    try clear p2
    try clear c3
    try clear c6
    try clear c9
    try clear c10
    try clear c12
    try clear c16
    try clear c20
    try clear c21
    try clear c21b0
    try clear c22
    try clear c26
    try clear c29
    try clear c30
    try clear c31
    try clear a7
    try clear a8
    try clear bb
    try clear bc
    try clear bd
    try clear be
    try clear bf
    try clear bg
    try clear bh
    try clear bi
    try clear bj
    try clear bt
    try clear bu
    try clear bv
    try clear bw
    try clear bx
    try clear bz
    try clear bA
    try clear bB
    try clear bC
    try clear bM
    try clear bN
    try clear bO
    try clear bP
    try clear bQ
    try clear bR
    try clear bS
    try clear bT
    try clear bU
    try clear b4
    try clear b5
    try clear b6
    try clear b7
    try clear b8
    try clear b9
    try clear ca
    try clear cb
    try clear cc
    try clear cm
    try clear cn
    try clear co
    try clear cp
    try clear cq
    try clear cr
    try clear ct
    try clear cu
    try clear cv
    try clear cF
    try clear cG
    try clear cH
    try clear cI
    try clear cJ
    try clear cK
    try clear cL
    try clear cM
    try clear cN
    try clear a9
    try clear ba
    try clear bk
    try clear bl
    try clear bm
    try clear bn
    try clear bo
    try clear bp
    try clear bq
    try clear br
    try clear bs
    try clear bD
    try clear bE
    try clear bF
    try clear bG
    try clear bH
    try clear bI
    try clear bJ
    try clear bK
    try clear bL
    try clear bV
    try clear bW
    try clear bX
    try clear bY
    try clear bZ
    try clear b0
    try clear b1
    try clear b2
    try clear b3
    try clear cd
    try clear ce
    try clear cf
    try clear cg
    try clear ch
    try clear ci
    try clear cj
    try clear ck
    try clear cl
    try clear cw
    try clear cx
    try clear cy
    try clear cz
    try clear cA
    try clear cB
    try clear cC
    try clear cD
    try clear cE
    try clear cO
    try clear cP
    try clear cQ
    try clear cR
    try clear cS
    try clear cT
    try clear cU
    try clear cV
    try clear cW
    obtain ⟨kq, aQ, rfl, HA, HJ12, aa, am, HB⟩ := hcut
    cases kq with
    | zero => exact absurd HA.out (by simp [batonref20_Bury.j0])
    | succ kj12 =>
     have H := HA.out
     clear HA
     simp only [batonref20_Bury.j0] at H
     by_cases c33 : aQ = true
     ·
      subst c33
      have H1 : (some (([] : List (S73)), ([] : List (S85)), 46)) = some (r1, r2, r3) := by rw [if_pos rfl] at H; exact H
      clear H
      have H := H1
      clear H1
      simp only [Option.some.injEq, Prod.mk.injEq] at H
      obtain ⟨rfl, rfl, rfl⟩ := H
      have df := aB.out
      have dg := ar.out
      have dh : wc.cell? ⟨al, 0, none⟩ = some (.slice none 0 0) := (blk_cell am.out 0).trans rfl
      have di : wc.cell? ⟨al, 1, none⟩ = some (.slice none 0 0) := (blk_cell am.out 1).trans rfl
      have dj := blk_frozen am.out 0
      have dk := blk_frozen am.out 1
      go_wp2
      refine bodyPost_ret (results_ct rfl _ _ al 34 #[.slice none 0 0, .slice none 0 0] (0, 0) _ rfl (by (with_reducible repeat (first | refine blk_drewN ?_ _ | refine blk_drew ?_ | refine blk_alloc ?_ _)); refine blk_put (cs := #[.slice none 0 0, .slice none 0 0]) ?_ 1 _ rfl; (with_reducible repeat (first | refine blk_drewN ?_ _ | refine blk_drew ?_ | refine blk_alloc ?_ _)); refine blk_put (cs := #[.slice none 0 0, .slice none 0 0]) ?_ 0 _ rfl; (with_reducible repeat (first | refine blk_drewN ?_ _ | refine blk_drew ?_ | refine blk_alloc ?_ _)); exact am.out) Try.underlying34 rfl (by kernel_rfl)) rfl ?_
      exact ⟨_, _, by first | rfl | (simp [errW_none, errW_some] <;> rfl) | (simp [*, errW_none, errW_some] <;> rfl), by first | exact Kd.R_nil _ _ _ _ _ | exact Kd.N_nil _ _ _ _ _ | exact Kd.V_nil _ _ _ _ _ | exact Kd.Q_nil _ _ _ _ _ | exact Kd.S_nil _ _ _ _ _, by first | exact Kd.R_nil _ _ _ _ _ | exact Kd.N_nil _ _ _ _ _ | exact Kd.V_nil _ _ _ _ _ | exact Kd.Q_nil _ _ _ _ _ | exact Kd.S_nil _ _ _ _ _, by repeat (first | (with_reducible first | exact HB.out | apply below_alloc | apply pw_below_drewN | apply below_drew1 | refine below_set ?_ ao.out | refine below_set ?_ au.out) | exact HB.out)⟩
     ·
      replace c33 := Bool.eq_false_iff.mpr c33
      subst c33
      have H1 : ((batonref20_conds.f ad ae ag ah ai aj ac af ak a1 a2 true).bind fun aA => ((batonref20_puts.f a1 a2 ad ae a3 true).bind fun aC => ((batonref20_putsTenant.f a1 (wrap64 (ac - 1)) af).bind fun ay => (some (aA, (([(⟨aC.1, aC.2.1, aC.2.2⟩ : S85), (⟨ay.1, ay.2.1, ay.2.2⟩ : S85)] : List (S85))), 0))))) = some (r1, r2, r3) := by rw [if_neg (show ¬ (false = true) by decide)] at H; exact H
      clear H
      have H := H1
      clear H1
      replace H := Option.bind_eq_some_iff.mp H
      obtain ⟨aA, A360, H⟩ := H
      replace H : ((batonref20_puts.f a1 a2 ad ae a3 true).bind fun aC => ((batonref20_putsTenant.f a1 (wrap64 (ac - 1)) af).bind fun ay => (some (aA, (([(⟨aC.1, aC.2.1, aC.2.2⟩ : S85), (⟨ay.1, ay.2.1, ay.2.2⟩ : S85)] : List (S85))), 0)))) = some (r1, r2, r3) := H
      have A36 := Aside0.mk A360
      clear A360
      replace H := Option.bind_eq_some_iff.mp H
      obtain ⟨⟨aG, aH, aI⟩, A370, H⟩ := H
      replace H : ((batonref20_putsTenant.f a1 (wrap64 (ac - 1)) af).bind fun ay => (some (aA, (([(⟨aG, aH, aI⟩ : S85), (⟨ay.1, ay.2.1, ay.2.2⟩ : S85)] : List (S85))), 0))) = some (r1, r2, r3) := H
      have A37 := Aside0.mk A370
      clear A370
      replace H := Option.bind_eq_some_iff.mp H
      obtain ⟨⟨aJ, aK, aL⟩, A380, H⟩ := H
      replace H : (some (aA, (([(⟨aG, aH, aI⟩ : S85), (⟨aJ, aK, aL⟩ : S85)] : List (S85))), 0)) = some (r1, r2, r3) := H
      have A38 := Aside0.mk A380
      clear A380
      obtain ⟨aR, hy194⟩ : ∃ y_ : List (S85), y_ = (([(⟨aG, aH, aI⟩ : S85), (⟨aJ, aK, aL⟩ : S85)] : List (S85))) := ⟨_, rfl⟩
      replace H : (some (aA, aR, 0)) = some (r1, r2, r3) := by first | (rw [hy194]; with_reducible exact H) | (have H2_ := (Option.bind_some _ _).symm.trans H; rw [hy194]; with_reducible exact H2_) | (have H2_ := (Option.bind_some _ _).symm.trans H; with_reducible exact H2_) | with_reducible exact H | (rw [hy194]; exact H) | exact H
      have Ny194 := Aside0.mk hy194
      clear hy194
      simp only [Option.some.injEq, Prod.mk.injEq] at H
      obtain ⟨rfl, rfl, rfl⟩ := H
      have dl := ar.out
      have dm := aB.out
      have dn : wc.cell? ⟨ab, 0, none⟩ = some (.string ad) := (blk_cell aa.out 0).trans rfl
      have dp : wc.cell? ⟨ab, 1, none⟩ = some (.int .i64 ae) := (blk_cell aa.out 1).trans rfl
      have dq : wc.cell? ⟨ab, 2, none⟩ = some (.int .i64 ag) := (blk_cell aa.out 2).trans rfl
      have dr : wc.cell? ⟨ab, 3, none⟩ = some (.bool ah) := (blk_cell aa.out 3).trans rfl
      have dt : wc.cell? ⟨ab, 4, none⟩ = some (.bool ai) := (blk_cell aa.out 4).trans rfl
      have du : wc.cell? ⟨ab, 5, none⟩ = some (.int .i64 aj) := (blk_cell aa.out 5).trans rfl
      have dv : wc.cell? ⟨ab, 6, none⟩ = some (.int .i64 ac) := (blk_cell aa.out 6).trans rfl
      have dw : wc.cell? ⟨ab, 7, none⟩ = some (.int .i64 af) := (blk_cell aa.out 7).trans rfl
      have dx : wc.cell? ⟨ab, 8, none⟩ = some (.int .i64 ak) := (blk_cell aa.out 8).trans rfl
      have dy := blk_frozen aa.out 0
      have dz := blk_frozen aa.out 1
      have dA := blk_frozen aa.out 2
      have dB := blk_frozen aa.out 3
      have dC := blk_frozen aa.out 4
      have dD := blk_frozen aa.out 5
      have dE := blk_frozen aa.out 6
      have dF := blk_frozen aa.out 7
      have dG := blk_frozen aa.out 8
      try go_wp2_with (first | ((with_reducible refine gate_dst (N := 10) rfl ?_); refine box_event ?hg (N := 10) ?hd (cs := #[.string (⟨#[]⟩ : ByteArray), .int .i64 0, .int .i64 0, .bool false]) (t := 23) ?hr ?_; (case hd => rfl); (case hg => rfl); (case hr => first | (go_simp; done) | (go_simp; rfl)); intro av hg w41 hbox hb; have n0_ := Aside0.mk (blk_below (g := ab) (o := .cells #[.string ad, .int .i64 ae, .int .i64 ag, .bool ah, .bool ai, .int .i64 aj, .int .i64 ac, .int .i64 af, .int .i64 ak] 27 (0, 0)) (by (with_reducible repeat (first | refine blk_drewN ?_ _ | refine blk_drew ?_ | refine blk_alloc ?_ _)); exact aa.out) hb); have n1_ := Aside0.mk (blk_below (g := al) (o := .cells #[.slice none 0 0, .slice none 0 0] 34 (0, 0)) (by (with_reducible repeat (first | refine blk_drewN ?_ _ | refine blk_drew ?_ | refine blk_alloc ?_ _)); exact am.out) hb); have n2_ := Aside0.mk (below_step (by repeat (first | (with_reducible first | exact HB.out | apply below_alloc | apply pw_below_drewN | apply below_drew1 | refine below_set ?_ ao.out | refine below_set ?_ au.out) | exact HB.out)) hb); have n3_ := Aside0.mk (hbox); have n4_ := Aside0.mk ((by rw [hg]; exact (below_size (by repeat (first | (with_reducible first | exact HB.out | apply below_alloc | apply pw_below_drewN | apply below_drew1 | refine below_set ?_ ao.out | refine below_set ?_ au.out) | exact HB.out))) : w.heap.size ≤ av)); have n5_ := Aside0.mk ((by rw [hg]; exact (below_size (by repeat (first | (with_reducible first | exact HB.out | apply below_alloc | apply pw_below_drewN | apply below_drew1 | refine below_set ?_ ao.out | refine below_set ?_ au.out) | exact HB.out))) : w.heap.size ≤ av)); have n6_ := Aside0.mk ((by rw [hg]; exact Nat.ne_of_lt (blk_lt (g := ab) (o := .cells #[.string ad, .int .i64 ae, .int .i64 ag, .bool ah, .bool ai, .int .i64 aj, .int .i64 ac, .int .i64 af, .int .i64 ak] 27 (0, 0)) (by (with_reducible repeat (first | refine blk_drewN ?_ _ | refine blk_drew ?_ | refine blk_alloc ?_ _)); exact aa.out)) : ab ≠ av)); have n7_ := Aside0.mk ((by rw [hg]; exact Nat.ne_of_gt (blk_lt (g := ab) (o := .cells #[.string ad, .int .i64 ae, .int .i64 ag, .bool ah, .bool ai, .int .i64 aj, .int .i64 ac, .int .i64 af, .int .i64 ak] 27 (0, 0)) (by (with_reducible repeat (first | refine blk_drewN ?_ _ | refine blk_drew ?_ | refine blk_alloc ?_ _)); exact aa.out)) : av ≠ ab)); have n8_ := Aside0.mk ((by rw [hg]; exact Nat.ne_of_lt (blk_lt (g := al) (o := .cells #[.slice none 0 0, .slice none 0 0] 34 (0, 0)) (by (with_reducible repeat (first | refine blk_drewN ?_ _ | refine blk_drew ?_ | refine blk_alloc ?_ _)); exact am.out)) : al ≠ av)); have n9_ := Aside0.mk ((by rw [hg]; exact Nat.ne_of_gt (blk_lt (g := al) (o := .cells #[.slice none 0 0, .slice none 0 0] 34 (0, 0)) (by (with_reducible repeat (first | refine blk_drewN ?_ _ | refine blk_drew ?_ | refine blk_alloc ?_ _)); exact am.out)) : av ≠ al)); clear aa; clear am; clear HB; have aa := n0_; have am := n1_; have HB := n2_; have an := n3_; have GW183 := n4_; have aD := n5_; have ax := n6_; have cX := n7_; have aw := n8_; have aE := n9_; clear n0_ n1_ n2_ n3_ n4_ n5_ n6_ n7_ n8_ n9_; clear hb hbox hg; have dH := cX.out; have dI := ax.out; have dJ := aE.out; have dK := aw.out; have dL : w41.cell? ⟨av, 0, none⟩ = some (.string (⟨#[]⟩ : ByteArray)) := (blk_cell an.out 0).trans rfl; have dM : w41.cell? ⟨av, 1, none⟩ = some (.int .i64 0) := (blk_cell an.out 1).trans rfl; have dN : w41.cell? ⟨av, 2, none⟩ = some (.int .i64 0) := (blk_cell an.out 2).trans rfl; have dO : w41.cell? ⟨av, 3, none⟩ = some (.bool false) := (blk_cell an.out 3).trans rfl; have dP := blk_frozen an.out 0; have dQ := blk_frozen an.out 1; have dR := blk_frozen an.out 2; have dS := blk_frozen an.out 3; have dT : w41.cell? ⟨ab, 0, none⟩ = some (.string ad) := (blk_cell aa.out 0).trans rfl; have dU : w41.cell? ⟨ab, 1, none⟩ = some (.int .i64 ae) := (blk_cell aa.out 1).trans rfl; have dV : w41.cell? ⟨ab, 2, none⟩ = some (.int .i64 ag) := (blk_cell aa.out 2).trans rfl; have dW : w41.cell? ⟨ab, 3, none⟩ = some (.bool ah) := (blk_cell aa.out 3).trans rfl; have dX : w41.cell? ⟨ab, 4, none⟩ = some (.bool ai) := (blk_cell aa.out 4).trans rfl; have dY : w41.cell? ⟨ab, 5, none⟩ = some (.int .i64 aj) := (blk_cell aa.out 5).trans rfl; have dZ : w41.cell? ⟨ab, 6, none⟩ = some (.int .i64 ac) := (blk_cell aa.out 6).trans rfl; have d0 : w41.cell? ⟨ab, 7, none⟩ = some (.int .i64 af) := (blk_cell aa.out 7).trans rfl; have d1 : w41.cell? ⟨ab, 8, none⟩ = some (.int .i64 ak) := (blk_cell aa.out 8).trans rfl; have d2 := blk_frozen aa.out 0; have d3 := blk_frozen aa.out 1; have d4 := blk_frozen aa.out 2; have d5 := blk_frozen aa.out 3; have d6 := blk_frozen aa.out 4; have d7 := blk_frozen aa.out 5; have d8 := blk_frozen aa.out 6; have d9 := blk_frozen aa.out 7; have ea := blk_frozen aa.out 8) | ((with_reducible refine gate_dst (N := 11) rfl ?_); refine box_event ?hg (N := 11) ?hd (cs := #[.int .i64 0, .int .i64 0]) (t := 25) ?hr ?_; (case hd => rfl); (case hg => rfl); (case hr => first | (go_simp; done) | (go_simp; rfl)); intro ap hg w46 hbox hb; have n0_ := Aside0.mk (blk_below (g := ab) (o := .cells #[.string ad, .int .i64 ae, .int .i64 ag, .bool ah, .bool ai, .int .i64 aj, .int .i64 ac, .int .i64 af, .int .i64 ak] 27 (0, 0)) (by (with_reducible repeat (first | refine blk_drewN ?_ _ | refine blk_drew ?_ | refine blk_alloc ?_ _)); refine blk_far ?_ ax.out _; (with_reducible repeat (first | refine blk_drewN ?_ _ | refine blk_drew ?_ | refine blk_alloc ?_ _)); refine blk_far ?_ ax.out _; (with_reducible repeat (first | refine blk_drewN ?_ _ | refine blk_drew ?_ | refine blk_alloc ?_ _)); refine blk_far ?_ ax.out _; (with_reducible repeat (first | refine blk_drewN ?_ _ | refine blk_drew ?_ | refine blk_alloc ?_ _)); refine blk_far ?_ ax.out _; (with_reducible repeat (first | refine blk_drewN ?_ _ | refine blk_drew ?_ | refine blk_alloc ?_ _)); refine blk_far ?_ ax.out _; (with_reducible repeat (first | refine blk_drewN ?_ _ | refine blk_drew ?_ | refine blk_alloc ?_ _)); refine blk_far ?_ ax.out _; (with_reducible repeat (first | refine blk_drewN ?_ _ | refine blk_drew ?_ | refine blk_alloc ?_ _)); exact aa.out) hb); have n1_ := Aside0.mk (blk_below (g := al) (o := .cells #[.slice none 0 0, .slice none 0 0] 34 (0, 0)) (by (with_reducible repeat (first | refine blk_drewN ?_ _ | refine blk_drew ?_ | refine blk_alloc ?_ _)); refine blk_far ?_ aw.out _; (with_reducible repeat (first | refine blk_drewN ?_ _ | refine blk_drew ?_ | refine blk_alloc ?_ _)); refine blk_far ?_ aw.out _; (with_reducible repeat (first | refine blk_drewN ?_ _ | refine blk_drew ?_ | refine blk_alloc ?_ _)); refine blk_far ?_ aw.out _; (with_reducible repeat (first | refine blk_drewN ?_ _ | refine blk_drew ?_ | refine blk_alloc ?_ _)); refine blk_far ?_ aw.out _; (with_reducible repeat (first | refine blk_drewN ?_ _ | refine blk_drew ?_ | refine blk_alloc ?_ _)); refine blk_far ?_ aw.out _; (with_reducible repeat (first | refine blk_drewN ?_ _ | refine blk_drew ?_ | refine blk_alloc ?_ _)); refine blk_far ?_ aw.out _; (with_reducible repeat (first | refine blk_drewN ?_ _ | refine blk_drew ?_ | refine blk_alloc ?_ _)); exact am.out) hb); have n2_ := Aside0.mk (blk_below (g := av) (o := .cells #[.string ad, .int .i64 ae, .int .i64 a3, .bool true] 23 (0, 0)) (by (with_reducible repeat (first | refine blk_drewN ?_ _ | refine blk_drew ?_ | refine blk_alloc ?_ _)); refine blk_put (cs := #[.string ad, .int .i64 ae, .int .i64 a3, .bool ah]) ?_ 3 _ rfl; (with_reducible repeat (first | refine blk_drewN ?_ _ | refine blk_drew ?_ | refine blk_alloc ?_ _)); refine blk_put (cs := #[.string ad, .int .i64 ae, .int .i64 ag, .bool ah]) ?_ 2 _ rfl; (with_reducible repeat (first | refine blk_drewN ?_ _ | refine blk_drew ?_ | refine blk_alloc ?_ _)); refine blk_put (cs := #[.string ad, .int .i64 ae, .int .i64 ag, .bool false]) ?_ 3 _ rfl; (with_reducible repeat (first | refine blk_drewN ?_ _ | refine blk_drew ?_ | refine blk_alloc ?_ _)); refine blk_put (cs := #[.string ad, .int .i64 ae, .int .i64 0, .bool false]) ?_ 2 _ rfl; (with_reducible repeat (first | refine blk_drewN ?_ _ | refine blk_drew ?_ | refine blk_alloc ?_ _)); refine blk_put (cs := #[.string ad, .int .i64 0, .int .i64 0, .bool false]) ?_ 1 _ rfl; (with_reducible repeat (first | refine blk_drewN ?_ _ | refine blk_drew ?_ | refine blk_alloc ?_ _)); refine blk_put (cs := #[.string (⟨#[]⟩ : ByteArray), .int .i64 0, .int .i64 0, .bool false]) ?_ 0 _ rfl; (with_reducible repeat (first | refine blk_drewN ?_ _ | refine blk_drew ?_ | refine blk_alloc ?_ _)); exact an.out) hb); have n3_ := Aside0.mk (below_step (by repeat (first | (with_reducible first | exact HB.out | apply below_alloc | apply pw_below_drewN | apply below_drew1 | refine below_set ?_ ao.out | refine below_set ?_ au.out | refine below_set ?_ aD.out) | exact HB.out)) hb); have n4_ := Aside0.mk (hbox); have n5_ := Aside0.mk ((by rw [hg]; exact (below_size (by repeat (first | (with_reducible first | exact HB.out | apply below_alloc | apply pw_below_drewN | apply below_drew1 | refine below_set ?_ ao.out | refine below_set ?_ au.out | refine below_set ?_ aD.out) | exact HB.out))) : w.heap.size ≤ ap)); have n6_ := Aside0.mk ((by rw [hg]; exact (below_size (by repeat (first | (with_reducible first | exact HB.out | apply below_alloc | apply pw_below_drewN | apply below_drew1 | refine below_set ?_ ao.out | refine below_set ?_ au.out | refine below_set ?_ aD.out) | exact HB.out))) : w.heap.size ≤ ap)); have n7_ := Aside0.mk ((by rw [hg]; exact Nat.ne_of_lt (blk_lt (g := ab) (o := .cells #[.string ad, .int .i64 ae, .int .i64 ag, .bool ah, .bool ai, .int .i64 aj, .int .i64 ac, .int .i64 af, .int .i64 ak] 27 (0, 0)) (by (with_reducible repeat (first | refine blk_drewN ?_ _ | refine blk_drew ?_ | refine blk_alloc ?_ _)); refine blk_far ?_ ax.out _; (with_reducible repeat (first | refine blk_drewN ?_ _ | refine blk_drew ?_ | refine blk_alloc ?_ _)); refine blk_far ?_ ax.out _; (with_reducible repeat (first | refine blk_drewN ?_ _ | refine blk_drew ?_ | refine blk_alloc ?_ _)); refine blk_far ?_ ax.out _; (with_reducible repeat (first | refine blk_drewN ?_ _ | refine blk_drew ?_ | refine blk_alloc ?_ _)); refine blk_far ?_ ax.out _; (with_reducible repeat (first | refine blk_drewN ?_ _ | refine blk_drew ?_ | refine blk_alloc ?_ _)); refine blk_far ?_ ax.out _; (with_reducible repeat (first | refine blk_drewN ?_ _ | refine blk_drew ?_ | refine blk_alloc ?_ _)); refine blk_far ?_ ax.out _; (with_reducible repeat (first | refine blk_drewN ?_ _ | refine blk_drew ?_ | refine blk_alloc ?_ _)); exact aa.out)) : ab ≠ ap)); have n8_ := Aside0.mk ((by rw [hg]; exact Nat.ne_of_gt (blk_lt (g := ab) (o := .cells #[.string ad, .int .i64 ae, .int .i64 ag, .bool ah, .bool ai, .int .i64 aj, .int .i64 ac, .int .i64 af, .int .i64 ak] 27 (0, 0)) (by (with_reducible repeat (first | refine blk_drewN ?_ _ | refine blk_drew ?_ | refine blk_alloc ?_ _)); refine blk_far ?_ ax.out _; (with_reducible repeat (first | refine blk_drewN ?_ _ | refine blk_drew ?_ | refine blk_alloc ?_ _)); refine blk_far ?_ ax.out _; (with_reducible repeat (first | refine blk_drewN ?_ _ | refine blk_drew ?_ | refine blk_alloc ?_ _)); refine blk_far ?_ ax.out _; (with_reducible repeat (first | refine blk_drewN ?_ _ | refine blk_drew ?_ | refine blk_alloc ?_ _)); refine blk_far ?_ ax.out _; (with_reducible repeat (first | refine blk_drewN ?_ _ | refine blk_drew ?_ | refine blk_alloc ?_ _)); refine blk_far ?_ ax.out _; (with_reducible repeat (first | refine blk_drewN ?_ _ | refine blk_drew ?_ | refine blk_alloc ?_ _)); refine blk_far ?_ ax.out _; (with_reducible repeat (first | refine blk_drewN ?_ _ | refine blk_drew ?_ | refine blk_alloc ?_ _)); exact aa.out)) : ap ≠ ab)); have n9_ := Aside0.mk ((by rw [hg]; exact Nat.ne_of_lt (blk_lt (g := al) (o := .cells #[.slice none 0 0, .slice none 0 0] 34 (0, 0)) (by (with_reducible repeat (first | refine blk_drewN ?_ _ | refine blk_drew ?_ | refine blk_alloc ?_ _)); refine blk_far ?_ aw.out _; (with_reducible repeat (first | refine blk_drewN ?_ _ | refine blk_drew ?_ | refine blk_alloc ?_ _)); refine blk_far ?_ aw.out _; (with_reducible repeat (first | refine blk_drewN ?_ _ | refine blk_drew ?_ | refine blk_alloc ?_ _)); refine blk_far ?_ aw.out _; (with_reducible repeat (first | refine blk_drewN ?_ _ | refine blk_drew ?_ | refine blk_alloc ?_ _)); refine blk_far ?_ aw.out _; (with_reducible repeat (first | refine blk_drewN ?_ _ | refine blk_drew ?_ | refine blk_alloc ?_ _)); refine blk_far ?_ aw.out _; (with_reducible repeat (first | refine blk_drewN ?_ _ | refine blk_drew ?_ | refine blk_alloc ?_ _)); refine blk_far ?_ aw.out _; (with_reducible repeat (first | refine blk_drewN ?_ _ | refine blk_drew ?_ | refine blk_alloc ?_ _)); exact am.out)) : al ≠ ap)); have n10_ := Aside0.mk ((by rw [hg]; exact Nat.ne_of_gt (blk_lt (g := al) (o := .cells #[.slice none 0 0, .slice none 0 0] 34 (0, 0)) (by (with_reducible repeat (first | refine blk_drewN ?_ _ | refine blk_drew ?_ | refine blk_alloc ?_ _)); refine blk_far ?_ aw.out _; (with_reducible repeat (first | refine blk_drewN ?_ _ | refine blk_drew ?_ | refine blk_alloc ?_ _)); refine blk_far ?_ aw.out _; (with_reducible repeat (first | refine blk_drewN ?_ _ | refine blk_drew ?_ | refine blk_alloc ?_ _)); refine blk_far ?_ aw.out _; (with_reducible repeat (first | refine blk_drewN ?_ _ | refine blk_drew ?_ | refine blk_alloc ?_ _)); refine blk_far ?_ aw.out _; (with_reducible repeat (first | refine blk_drewN ?_ _ | refine blk_drew ?_ | refine blk_alloc ?_ _)); refine blk_far ?_ aw.out _; (with_reducible repeat (first | refine blk_drewN ?_ _ | refine blk_drew ?_ | refine blk_alloc ?_ _)); refine blk_far ?_ aw.out _; (with_reducible repeat (first | refine blk_drewN ?_ _ | refine blk_drew ?_ | refine blk_alloc ?_ _)); exact am.out)) : ap ≠ al)); have n11_ := Aside0.mk ((by rw [hg]; exact Nat.ne_of_lt (blk_lt (g := av) (o := .cells #[.string ad, .int .i64 ae, .int .i64 a3, .bool true] 23 (0, 0)) (by (with_reducible repeat (first | refine blk_drewN ?_ _ | refine blk_drew ?_ | refine blk_alloc ?_ _)); refine blk_put (cs := #[.string ad, .int .i64 ae, .int .i64 a3, .bool ah]) ?_ 3 _ rfl; (with_reducible repeat (first | refine blk_drewN ?_ _ | refine blk_drew ?_ | refine blk_alloc ?_ _)); refine blk_put (cs := #[.string ad, .int .i64 ae, .int .i64 ag, .bool ah]) ?_ 2 _ rfl; (with_reducible repeat (first | refine blk_drewN ?_ _ | refine blk_drew ?_ | refine blk_alloc ?_ _)); refine blk_put (cs := #[.string ad, .int .i64 ae, .int .i64 ag, .bool false]) ?_ 3 _ rfl; (with_reducible repeat (first | refine blk_drewN ?_ _ | refine blk_drew ?_ | refine blk_alloc ?_ _)); refine blk_put (cs := #[.string ad, .int .i64 ae, .int .i64 0, .bool false]) ?_ 2 _ rfl; (with_reducible repeat (first | refine blk_drewN ?_ _ | refine blk_drew ?_ | refine blk_alloc ?_ _)); refine blk_put (cs := #[.string ad, .int .i64 0, .int .i64 0, .bool false]) ?_ 1 _ rfl; (with_reducible repeat (first | refine blk_drewN ?_ _ | refine blk_drew ?_ | refine blk_alloc ?_ _)); refine blk_put (cs := #[.string (⟨#[]⟩ : ByteArray), .int .i64 0, .int .i64 0, .bool false]) ?_ 0 _ rfl; (with_reducible repeat (first | refine blk_drewN ?_ _ | refine blk_drew ?_ | refine blk_alloc ?_ _)); exact an.out)) : av ≠ ap)); have n12_ := Aside0.mk ((by rw [hg]; exact Nat.ne_of_gt (blk_lt (g := av) (o := .cells #[.string ad, .int .i64 ae, .int .i64 a3, .bool true] 23 (0, 0)) (by (with_reducible repeat (first | refine blk_drewN ?_ _ | refine blk_drew ?_ | refine blk_alloc ?_ _)); refine blk_put (cs := #[.string ad, .int .i64 ae, .int .i64 a3, .bool ah]) ?_ 3 _ rfl; (with_reducible repeat (first | refine blk_drewN ?_ _ | refine blk_drew ?_ | refine blk_alloc ?_ _)); refine blk_put (cs := #[.string ad, .int .i64 ae, .int .i64 ag, .bool ah]) ?_ 2 _ rfl; (with_reducible repeat (first | refine blk_drewN ?_ _ | refine blk_drew ?_ | refine blk_alloc ?_ _)); refine blk_put (cs := #[.string ad, .int .i64 ae, .int .i64 ag, .bool false]) ?_ 3 _ rfl; (with_reducible repeat (first | refine blk_drewN ?_ _ | refine blk_drew ?_ | refine blk_alloc ?_ _)); refine blk_put (cs := #[.string ad, .int .i64 ae, .int .i64 0, .bool false]) ?_ 2 _ rfl; (with_reducible repeat (first | refine blk_drewN ?_ _ | refine blk_drew ?_ | refine blk_alloc ?_ _)); refine blk_put (cs := #[.string ad, .int .i64 0, .int .i64 0, .bool false]) ?_ 1 _ rfl; (with_reducible repeat (first | refine blk_drewN ?_ _ | refine blk_drew ?_ | refine blk_alloc ?_ _)); refine blk_put (cs := #[.string (⟨#[]⟩ : ByteArray), .int .i64 0, .int .i64 0, .bool false]) ?_ 0 _ rfl; (with_reducible repeat (first | refine blk_drewN ?_ _ | refine blk_drew ?_ | refine blk_alloc ?_ _)); exact an.out)) : ap ≠ av)); clear aa; clear am; clear an; clear HB; have aa := n0_; have am := n1_; have an := n2_; have HB := n3_; have aq := n4_; have GW184 := n5_; have aM := n6_; have aS := n7_; have cY := n8_; have aP := n9_; have aN := n10_; have aT := n11_; have cZ := n12_; clear n0_ n1_ n2_ n3_ n4_ n5_ n6_ n7_ n8_ n9_ n10_ n11_ n12_; clear hb hbox hg; have eb := cY.out; have ec := aS.out; have ed := aN.out; have ee := aP.out; have ef := cZ.out; have eg := aT.out; have eh : w46.cell? ⟨ap, 0, none⟩ = some (.int .i64 0) := (blk_cell aq.out 0).trans rfl; have ei : w46.cell? ⟨ap, 1, none⟩ = some (.int .i64 0) := (blk_cell aq.out 1).trans rfl; have ej := blk_frozen aq.out 0; have ek := blk_frozen aq.out 1))
      have n0_ : Aside0 ((((w46.setCell ⟨ap, 0, none⟩ (.int .i64 ac)).setCell ⟨ap, 1, none⟩ (.int .i64 af)).setCell ⟨ap, 0, none⟩ (.int .i64 (wrap64 (ac - 1)))).heap[ab]? = some (.cells #[.string ad, .int .i64 ae, .int .i64 ag, .bool ah, .bool ai, .int .i64 aj, .int .i64 ac, .int .i64 af, .int .i64 ak] 27 (0, 0))) := ⟨by (with_reducible repeat (first | refine blk_drewN ?_ _ | refine blk_drew ?_ | refine blk_alloc ?_ _)); refine blk_far ?_ aS.out _; (with_reducible repeat (first | refine blk_drewN ?_ _ | refine blk_drew ?_ | refine blk_alloc ?_ _)); refine blk_far ?_ aS.out _; (with_reducible repeat (first | refine blk_drewN ?_ _ | refine blk_drew ?_ | refine blk_alloc ?_ _)); refine blk_far ?_ aS.out _; (with_reducible repeat (first | refine blk_drewN ?_ _ | refine blk_drew ?_ | refine blk_alloc ?_ _)); exact aa.out⟩
      have n1_ : Aside0 ((((w46.setCell ⟨ap, 0, none⟩ (.int .i64 ac)).setCell ⟨ap, 1, none⟩ (.int .i64 af)).setCell ⟨ap, 0, none⟩ (.int .i64 (wrap64 (ac - 1)))).heap[al]? = some (.cells #[.slice none 0 0, .slice none 0 0] 34 (0, 0))) := ⟨by (with_reducible repeat (first | refine blk_drewN ?_ _ | refine blk_drew ?_ | refine blk_alloc ?_ _)); refine blk_far ?_ aP.out _; (with_reducible repeat (first | refine blk_drewN ?_ _ | refine blk_drew ?_ | refine blk_alloc ?_ _)); refine blk_far ?_ aP.out _; (with_reducible repeat (first | refine blk_drewN ?_ _ | refine blk_drew ?_ | refine blk_alloc ?_ _)); refine blk_far ?_ aP.out _; (with_reducible repeat (first | refine blk_drewN ?_ _ | refine blk_drew ?_ | refine blk_alloc ?_ _)); exact am.out⟩
      have n2_ : Aside0 ((((w46.setCell ⟨ap, 0, none⟩ (.int .i64 ac)).setCell ⟨ap, 1, none⟩ (.int .i64 af)).setCell ⟨ap, 0, none⟩ (.int .i64 (wrap64 (ac - 1)))).heap[av]? = some (.cells #[.string ad, .int .i64 ae, .int .i64 a3, .bool true] 23 (0, 0))) := ⟨by (with_reducible repeat (first | refine blk_drewN ?_ _ | refine blk_drew ?_ | refine blk_alloc ?_ _)); refine blk_far ?_ aT.out _; (with_reducible repeat (first | refine blk_drewN ?_ _ | refine blk_drew ?_ | refine blk_alloc ?_ _)); refine blk_far ?_ aT.out _; (with_reducible repeat (first | refine blk_drewN ?_ _ | refine blk_drew ?_ | refine blk_alloc ?_ _)); refine blk_far ?_ aT.out _; (with_reducible repeat (first | refine blk_drewN ?_ _ | refine blk_drew ?_ | refine blk_alloc ?_ _)); exact an.out⟩
      have n3_ : Aside0 ((((w46.setCell ⟨ap, 0, none⟩ (.int .i64 ac)).setCell ⟨ap, 1, none⟩ (.int .i64 af)).setCell ⟨ap, 0, none⟩ (.int .i64 (wrap64 (ac - 1)))).heap[ap]? = some (.cells #[.int .i64 (wrap64 (ac - 1)), .int .i64 af] 25 (0, 0))) := ⟨by (with_reducible repeat (first | refine blk_drewN ?_ _ | refine blk_drew ?_ | refine blk_alloc ?_ _)); refine blk_put (cs := #[.int .i64 ac, .int .i64 af]) ?_ 0 _ rfl; (with_reducible repeat (first | refine blk_drewN ?_ _ | refine blk_drew ?_ | refine blk_alloc ?_ _)); refine blk_put (cs := #[.int .i64 ac, .int .i64 0]) ?_ 1 _ rfl; (with_reducible repeat (first | refine blk_drewN ?_ _ | refine blk_drew ?_ | refine blk_alloc ?_ _)); refine blk_put (cs := #[.int .i64 0, .int .i64 0]) ?_ 0 _ rfl; (with_reducible repeat (first | refine blk_drewN ?_ _ | refine blk_drew ?_ | refine blk_alloc ?_ _)); exact aq.out⟩
      have n4_ : Aside0 (Below w.heap.size w (((w46.setCell ⟨ap, 0, none⟩ (.int .i64 ac)).setCell ⟨ap, 1, none⟩ (.int .i64 af)).setCell ⟨ap, 0, none⟩ (.int .i64 (wrap64 (ac - 1))))) := ⟨by repeat (first | (with_reducible first | exact HB.out | apply below_alloc | apply pw_below_drewN | apply below_drew1 | refine below_set ?_ ao.out | refine below_set ?_ au.out | refine below_set ?_ aD.out | refine below_set ?_ aM.out) | exact HB.out)⟩
      (try clear aa)
      (try clear am)
      (try clear an)
      (try clear aq)
      (try clear HB)
      generalize (((w46.setCell ⟨ap, 0, none⟩ (.int .i64 ac)).setCell ⟨ap, 1, none⟩ (.int .i64 af)).setCell ⟨ap, 0, none⟩ (.int .i64 (wrap64 (ac - 1)))) = w51 at n0_ n1_ n2_ n3_ n4_ ⊢
      have aa := n0_
      have am := n1_
      have an := n2_
      have aq := n3_
      have HB := n4_
      clear n0_ n1_ n2_ n3_ n4_
      have n0_ := Aside0.mk (blk_drew aa.out)
      have n1_ := Aside0.mk (blk_drew am.out)
      have n2_ := Aside0.mk (blk_drew an.out)
      have n3_ := Aside0.mk (blk_drew aq.out)
      have n4_ := Aside0.mk (below_drew1 HB.out)
      clear aa
      clear am
      clear an
      clear aq
      clear HB
      have aa := n0_
      have am := n1_
      have an := n2_
      have aq := n3_
      have HB := n4_
      clear n0_ n1_ n2_ n3_ n4_
      refine start_ (n := 15) (S := fun w' => w'.cell? ⟨ab, 0, none⟩ = some (.string ad) ∧ w'.cell? ⟨ab, 1, none⟩ = some (.int .i64 ae) ∧ w'.cell? ⟨ab, 2, none⟩ = some (.int .i64 ag) ∧ w'.cell? ⟨ab, 3, none⟩ = some (.bool ah) ∧ w'.cell? ⟨ab, 4, none⟩ = some (.bool ai) ∧ w'.cell? ⟨ab, 5, none⟩ = some (.int .i64 aj) ∧ w'.cell? ⟨ab, 6, none⟩ = some (.int .i64 ac) ∧ w'.cell? ⟨ab, 7, none⟩ = some (.int .i64 af) ∧ w'.cell? ⟨ab, 8, none⟩ = some (.int .i64 ak) ∧ w'.cell? ⟨av, 0, none⟩ = some (.string ad) ∧ w'.cell? ⟨av, 1, none⟩ = some (.int .i64 ae) ∧ w'.cell? ⟨av, 2, none⟩ = some (.int .i64 a3) ∧ w'.cell? ⟨av, 3, none⟩ = some (.bool true) ∧ w'.cell? ⟨ap, 0, none⟩ = some (.int .i64 (wrap64 (ac - 1))) ∧ w'.cell? ⟨ap, 1, none⟩ = some (.int .i64 af)) (ds := []) #[false, false, false, false, false, false, false, false, false, false, false, false, false, false, false] (by kernel_rfl) rfl rfl ⟨(blk_cell aa.out 0).trans rfl, (blk_cell aa.out 1).trans rfl, (blk_cell aa.out 2).trans rfl, (blk_cell aa.out 3).trans rfl, (blk_cell aa.out 4).trans rfl, (blk_cell aa.out 5).trans rfl, (blk_cell aa.out 6).trans rfl, (blk_cell aa.out 7).trans rfl, (blk_cell aa.out 8).trans rfl, (blk_cell an.out 0).trans rfl, (blk_cell an.out 1).trans rfl, (blk_cell an.out 2).trans rfl, (blk_cell an.out 3).trans rfl, (blk_cell aq.out 0).trans rfl, (blk_cell aq.out 1).trans rfl⟩ (fun hHeld => ?_); refine with_tabW batonref20_Bury.tab12 batonref20_Bury.bits12 (fun HT_ HW_ => ?_)
      generalize w51.drew = w52 at aa am an aq HB hHeld ⊢
      refine pure_ (i := 1) (N := some 50) (v := ?_) (a' := ?_) #[false, true, false, false, false, false, false, false, false, false, false, false, false, false, false] rfl rfl (any_of HT_.out (by kernel_rfl)) (fun _ _ _ h => h) (Or.inl ⟨by rfl, ?_⟩) ?_ ?_
      rotate_left
      ·
       intro w'
       go_simp
       with_reducible rfl
      rotate_left
      ·
       simp only [Act.put, List.setIfInBounds_toArray, List.set_cons_zero, List.set_cons_succ, i64_w, i32_w]
       rfl
      refine pure_ (i := 2) (N := some 51) (v := ?_) (a' := ?_) #[false, true, true, false, false, false, false, false, false, false, false, false, false, false, false] rfl rfl (any_of HT_.out (by kernel_rfl)) (fun _ _ _ h => h) (Or.inl ⟨by rfl, ?_⟩) ?_ ?_
      rotate_left
      ·
       intro w'
       go_simp
       with_reducible rfl
      rotate_left
      ·
       simp only [Act.put, List.setIfInBounds_toArray, List.set_cons_zero, List.set_cons_succ, i64_w, i32_w]
       rfl
      refine pure_ (i := 4) (N := some 53) (v := ?_) (a' := ?_) #[false, true, true, false, true, false, false, false, false, false, false, false, false, false, false] rfl rfl (any_of HT_.out (by kernel_rfl)) (fun _ _ _ h => h) (Or.inl ⟨by rfl, ?_⟩) ?_ ?_
      rotate_left
      ·
       intro w'
       go_simp
       with_reducible rfl
      rotate_left
      ·
       simp only [Act.put, List.setIfInBounds_toArray, List.set_cons_zero, List.set_cons_succ, i64_w, i32_w]
       rfl
      refine pure_ (i := 5) (N := some 54) (v := ?_) (a' := ?_) #[false, true, true, false, true, true, false, false, false, false, false, false, false, false, false] rfl rfl (any_of HT_.out (by kernel_rfl)) (fun _ _ _ h => h) (Or.inl ⟨by rfl, ?_⟩) ?_ ?_
      rotate_left
      ·
       intro w'
       go_simp
       with_reducible rfl
      rotate_left
      ·
       simp only [Act.put, List.setIfInBounds_toArray, List.set_cons_zero, List.set_cons_succ, i64_w, i32_w]
       rfl
      refine pure_ (i := 8) (N := some 57) (v := ?_) (a' := ?_) #[false, true, true, false, true, true, false, false, true, false, false, false, false, false, false] rfl rfl (any_of HT_.out (by kernel_rfl)) (fun _ _ _ h => h) (Or.inl ⟨by rfl, ?_⟩) ?_ ?_
      rotate_left
      ·
       intro w'
       go_simp
       with_reducible rfl
      rotate_left
      ·
       simp only [Act.put, List.setIfInBounds_toArray, List.set_cons_zero, List.set_cons_succ, i64_w, i32_w]
       rfl
      refine take_ (i := 0) (N := some 49) (v := ?_) (a' := ?_) #[true, true, true, false, true, true, false, false, true, false, false, false, false, false, false] rfl rfl (take_ofW HT_.out HW_.out (by kernel_rfl)) (fun _ _ _ h => h) (Or.inl ⟨by rfl, ?_⟩) hHeld ?_ ?_
      rotate_left
      ·
       rintro w' ⟨s0, s1, s2, s3, s4, s5, s6, s7, s8, s9, s10, s11, s12, s13, s14⟩
       go_simp
       with_reducible rfl
      rotate_left
      ·
       simp only [Act.put, List.setIfInBounds_toArray, List.set_cons_zero, List.set_cons_succ, i64_w, i32_w]
       rfl
      refine take_ (i := 6) (N := some 55) (v := ?_) (a' := ?_) #[true, true, true, false, true, true, true, false, true, false, false, false, false, false, false] rfl rfl (take_ofW HT_.out HW_.out (by kernel_rfl)) (fun _ _ _ h => h) (Or.inl ⟨by rfl, ?_⟩) hHeld ?_ ?_
      rotate_left
      ·
       rintro w' ⟨s0, s1, s2, s3, s4, s5, s6, s7, s8, s9, s10, s11, s12, s13, s14⟩
       go_simp
       with_reducible rfl
      rotate_left
      ·
       simp only [Act.put, List.setIfInBounds_toArray, List.set_cons_zero, List.set_cons_succ, i64_w, i32_w]
       rfl
      refine take_ (i := 9) (N := some 58) (v := ?_) (a' := ?_) #[true, true, true, false, true, true, true, false, true, true, false, false, false, false, false] rfl rfl (take_ofW HT_.out HW_.out (by kernel_rfl)) (fun _ _ _ h => h) (Or.inl ⟨by rfl, ?_⟩) hHeld ?_ ?_
      rotate_left
      ·
       rintro w' ⟨s0, s1, s2, s3, s4, s5, s6, s7, s8, s9, s10, s11, s12, s13, s14⟩
       go_simp
       with_reducible rfl
      rotate_left
      ·
       simp only [Act.put, List.setIfInBounds_toArray, List.set_cons_zero, List.set_cons_succ, i64_w, i32_w]
       rfl
      refine one_ (i := 3) (N := some 52) #[true, true, true, true, true, true, true, false, true, true, false, false, false, false, false] rfl rfl (one_of HT_.out (by kernel_rfl)) (by decide) (fun K hK => ?_)
      refine goes_ Try.func110 (by kernel_rfl) rfl #[.agg #[.string ad, .int .i64 ae, .int .i64 ag, .bool ah, .bool ai, .int .i64 aj, .int .i64 ac, .int .i64 af, .int .i64 ak], .string a1, .string a2, .bool true] (by rfl) rfl rfl (by (try simp only [List.map_toArray, List.map_cons, List.map_nil]); first | done | rfl | (simp only [List.length_drop, List.length_take]; rfl)) ?_
      with_reducible refine (batonref20_conds.calls ad ae ag ah ai aj ac af ak a1 a2 true aA _ A36.out).mono ?_
      rintro e w53 ⟨v186, rfl, ho0, hb⟩
      refine ⟨_, rfl, ?_⟩
      have n0_ := Aside0.mk (Kd.R_lower ho0 (below_size (by repeat (first | (with_reducible first | exact HB.out | apply below_alloc | apply pw_below_drewN | apply below_drew1 | refine below_set ?_ ao.out | refine below_set ?_ au.out | refine below_set ?_ aD.out | refine below_set ?_ aM.out) | exact HB.out))))
      have n1_ := Aside0.mk (blk_below (g := ab) (o := .cells #[.string ad, .int .i64 ae, .int .i64 ag, .bool ah, .bool ai, .int .i64 aj, .int .i64 ac, .int .i64 af, .int .i64 ak] 27 (0, 0)) (by (with_reducible repeat (first | refine blk_drewN ?_ _ | refine blk_drew ?_ | refine blk_alloc ?_ _)); exact aa.out) hb)
      have n2_ := Aside0.mk (blk_below (g := al) (o := .cells #[.slice none 0 0, .slice none 0 0] 34 (0, 0)) (by (with_reducible repeat (first | refine blk_drewN ?_ _ | refine blk_drew ?_ | refine blk_alloc ?_ _)); exact am.out) hb)
      have n3_ := Aside0.mk (blk_below (g := av) (o := .cells #[.string ad, .int .i64 ae, .int .i64 a3, .bool true] 23 (0, 0)) (by (with_reducible repeat (first | refine blk_drewN ?_ _ | refine blk_drew ?_ | refine blk_alloc ?_ _)); exact an.out) hb)
      have n4_ := Aside0.mk (blk_below (g := ap) (o := .cells #[.int .i64 (wrap64 (ac - 1)), .int .i64 af] 25 (0, 0)) (by (with_reducible repeat (first | refine blk_drewN ?_ _ | refine blk_drew ?_ | refine blk_alloc ?_ _)); exact aq.out) hb)
      have n5_ := Aside0.mk (below_step (by repeat (first | (with_reducible first | exact HB.out | apply below_alloc | apply pw_below_drewN | apply below_drew1 | refine below_set ?_ ao.out | refine below_set ?_ au.out | refine below_set ?_ aD.out | refine below_set ?_ aM.out) | exact HB.out)) hb)
      clear aa
      clear am
      clear an
      clear aq
      clear HB
      have HO187 := n0_
      have aa := n1_
      have am := n2_
      have an := n3_
      have aq := n4_
      have HB := n5_
      clear n0_ n1_ n2_ n3_ n4_ n5_
      (try clear hb)
      (try clear hb2)
      (try clear hk)
      (try clear hi)
      (try clear ho0)
      refine hK.out _ _ ⟨(blk_cell aa.out 0).trans rfl, (blk_cell aa.out 1).trans rfl, (blk_cell aa.out 2).trans rfl, (blk_cell aa.out 3).trans rfl, (blk_cell aa.out 4).trans rfl, (blk_cell aa.out 5).trans rfl, (blk_cell aa.out 6).trans rfl, (blk_cell aa.out 7).trans rfl, (blk_cell aa.out 8).trans rfl, (blk_cell an.out 0).trans rfl, (blk_cell an.out 1).trans rfl, (blk_cell an.out 2).trans rfl, (blk_cell an.out 3).trans rfl, (blk_cell aq.out 0).trans rfl, (blk_cell aq.out 1).trans rfl⟩ (fun hHeld => ?_)
      clear hK K
      refine norm_ (a' := ?_) ?_ ?_
      rotate_left
      ·
       show Act.put _ (some 52) _ = _
       simp only [Act.put, List.setIfInBounds_toArray, List.set_cons_zero, List.set_cons_succ, i64_w, i32_w]
       rfl
      refine one_ (i := 7) (N := some 56) #[true, true, true, true, true, true, true, true, true, true, false, false, false, false, false] rfl rfl (one_of HT_.out (by kernel_rfl)) (by decide) (fun K hK => ?_)
      refine goes_ Try.func111 (by kernel_rfl) rfl #[.string a1, .string a2, .agg #[.string ad, .int .i64 ae, .int .i64 a3, .bool true]] (by rfl) rfl rfl (by (try simp only [List.map_toArray, List.map_cons, List.map_nil]); first | done | rfl | (simp only [List.length_drop, List.length_take]; rfl)) ?_
      with_reducible refine (batonref20_puts.calls a1 a2 ad ae a3 true aG aH aI _ A37.out).mono ?_
      rintro e w54 ⟨rfl, hb⟩
      refine ⟨_, rfl, ?_⟩
      have n0_ := Aside0.mk (Kd.R_below (by (with_reducible repeat (first | apply Kd.R_alloc | apply Kd.R_drewN | apply Kd.R_drew)); exact HO187.out) hb)
      have n1_ := Aside0.mk (blk_below (g := ab) (o := .cells #[.string ad, .int .i64 ae, .int .i64 ag, .bool ah, .bool ai, .int .i64 aj, .int .i64 ac, .int .i64 af, .int .i64 ak] 27 (0, 0)) (by (with_reducible repeat (first | refine blk_drewN ?_ _ | refine blk_drew ?_ | refine blk_alloc ?_ _)); exact aa.out) hb)
      have n2_ := Aside0.mk (blk_below (g := al) (o := .cells #[.slice none 0 0, .slice none 0 0] 34 (0, 0)) (by (with_reducible repeat (first | refine blk_drewN ?_ _ | refine blk_drew ?_ | refine blk_alloc ?_ _)); exact am.out) hb)
      have n3_ := Aside0.mk (blk_below (g := av) (o := .cells #[.string ad, .int .i64 ae, .int .i64 a3, .bool true] 23 (0, 0)) (by (with_reducible repeat (first | refine blk_drewN ?_ _ | refine blk_drew ?_ | refine blk_alloc ?_ _)); exact an.out) hb)
      have n4_ := Aside0.mk (blk_below (g := ap) (o := .cells #[.int .i64 (wrap64 (ac - 1)), .int .i64 af] 25 (0, 0)) (by (with_reducible repeat (first | refine blk_drewN ?_ _ | refine blk_drew ?_ | refine blk_alloc ?_ _)); exact aq.out) hb)
      have n5_ := Aside0.mk (below_step (by repeat (first | (with_reducible first | exact HB.out | apply below_alloc | apply pw_below_drewN | apply below_drew1 | refine below_set ?_ ao.out | refine below_set ?_ au.out | refine below_set ?_ aD.out | refine below_set ?_ aM.out) | exact HB.out)) hb)
      clear HO187
      clear aa
      clear am
      clear an
      clear aq
      clear HB
      have HO187 := n0_
      have aa := n1_
      have am := n2_
      have an := n3_
      have aq := n4_
      have HB := n5_
      clear n0_ n1_ n2_ n3_ n4_ n5_
      (try clear hb)
      (try clear hb2)
      (try clear hk)
      (try clear hi)
      refine hK.out _ _ ⟨(blk_cell aa.out 0).trans rfl, (blk_cell aa.out 1).trans rfl, (blk_cell aa.out 2).trans rfl, (blk_cell aa.out 3).trans rfl, (blk_cell aa.out 4).trans rfl, (blk_cell aa.out 5).trans rfl, (blk_cell aa.out 6).trans rfl, (blk_cell aa.out 7).trans rfl, (blk_cell aa.out 8).trans rfl, (blk_cell an.out 0).trans rfl, (blk_cell an.out 1).trans rfl, (blk_cell an.out 2).trans rfl, (blk_cell an.out 3).trans rfl, (blk_cell aq.out 0).trans rfl, (blk_cell aq.out 1).trans rfl⟩ (fun hHeld => ?_)
      clear hK K
      refine norm_ (a' := ?_) ?_ ?_
      rotate_left
      ·
       show Act.put _ (some 56) _ = _
       simp only [Act.put, List.setIfInBounds_toArray, List.set_cons_zero, List.set_cons_succ, i64_w, i32_w]
       rfl
      refine one_ (i := 10) (N := some 59) #[true, true, true, true, true, true, true, true, true, true, true, false, false, false, false] rfl rfl (one_of HT_.out (by kernel_rfl)) (by decide) (fun K hK => ?_)
      refine goes_ Try.func112 (by kernel_rfl) rfl #[.string a1, .agg #[.int .i64 (wrap64 (ac - 1)), .int .i64 af]] (by rfl) rfl rfl (by (try simp only [List.map_toArray, List.map_cons, List.map_nil]); first | done | rfl | (simp only [List.length_drop, List.length_take]; rfl)) ?_
      with_reducible refine (batonref20_putsTenant.calls a1 (wrap64 (ac - 1)) af aJ aK aL _ A38.out).mono ?_
      rintro e w55 ⟨rfl, hb⟩
      refine ⟨_, rfl, ?_⟩
      have n0_ := Aside0.mk (Kd.R_below (by (with_reducible repeat (first | apply Kd.R_alloc | apply Kd.R_drewN | apply Kd.R_drew)); exact HO187.out) hb)
      have n1_ := Aside0.mk (blk_below (g := ab) (o := .cells #[.string ad, .int .i64 ae, .int .i64 ag, .bool ah, .bool ai, .int .i64 aj, .int .i64 ac, .int .i64 af, .int .i64 ak] 27 (0, 0)) (by (with_reducible repeat (first | refine blk_drewN ?_ _ | refine blk_drew ?_ | refine blk_alloc ?_ _)); exact aa.out) hb)
      have n2_ := Aside0.mk (blk_below (g := al) (o := .cells #[.slice none 0 0, .slice none 0 0] 34 (0, 0)) (by (with_reducible repeat (first | refine blk_drewN ?_ _ | refine blk_drew ?_ | refine blk_alloc ?_ _)); exact am.out) hb)
      have n3_ := Aside0.mk (blk_below (g := av) (o := .cells #[.string ad, .int .i64 ae, .int .i64 a3, .bool true] 23 (0, 0)) (by (with_reducible repeat (first | refine blk_drewN ?_ _ | refine blk_drew ?_ | refine blk_alloc ?_ _)); exact an.out) hb)
      have n4_ := Aside0.mk (blk_below (g := ap) (o := .cells #[.int .i64 (wrap64 (ac - 1)), .int .i64 af] 25 (0, 0)) (by (with_reducible repeat (first | refine blk_drewN ?_ _ | refine blk_drew ?_ | refine blk_alloc ?_ _)); exact aq.out) hb)
      have n5_ := Aside0.mk (below_step (by repeat (first | (with_reducible first | exact HB.out | apply below_alloc | apply pw_below_drewN | apply below_drew1 | refine below_set ?_ ao.out | refine below_set ?_ au.out | refine below_set ?_ aD.out | refine below_set ?_ aM.out) | exact HB.out)) hb)
      clear HO187
      clear aa
      clear am
      clear an
      clear aq
      clear HB
      have HO187 := n0_
      have aa := n1_
      have am := n2_
      have an := n3_
      have aq := n4_
      have HB := n5_
      clear n0_ n1_ n2_ n3_ n4_ n5_
      (try clear hb)
      (try clear hb2)
      (try clear hk)
      (try clear hi)
      refine hK.out _ _ ⟨(blk_cell aa.out 0).trans rfl, (blk_cell aa.out 1).trans rfl, (blk_cell aa.out 2).trans rfl, (blk_cell aa.out 3).trans rfl, (blk_cell aa.out 4).trans rfl, (blk_cell aa.out 5).trans rfl, (blk_cell aa.out 6).trans rfl, (blk_cell aa.out 7).trans rfl, (blk_cell aa.out 8).trans rfl, (blk_cell an.out 0).trans rfl, (blk_cell an.out 1).trans rfl, (blk_cell an.out 2).trans rfl, (blk_cell an.out 3).trans rfl, (blk_cell aq.out 0).trans rfl, (blk_cell aq.out 1).trans rfl⟩ (fun hHeld => ?_)
      clear hK K
      refine norm_ (a' := ?_) ?_ ?_
      rotate_left
      ·
       show Act.put _ (some 59) _ = _
       simp only [Act.put, List.setIfInBounds_toArray, List.set_cons_zero, List.set_cons_succ, i64_w, i32_w]
       rfl
      refine one_ (i := 11) (N := some 60) #[true, true, true, true, true, true, true, true, true, true, true, true, false, false, false] rfl rfl (one_of HT_.out (by kernel_rfl)) (by decide) (fun K hK => ?_)
      refine Kd.R_lit_step k85 _ 85 ?hg (N := 60) ?hd (xs := ([(⟨aG, aH, aI⟩ : S85), (⟨aJ, aK, aL⟩ : S85)] : List (S85))) (inner := [.bool aG, .string aH, .string aI, .bool aJ, .string aK, .string aL]) (ok := fun _ => True) (okp := fun _ => True) ?hr ?hp (fun _ hk => hk) trivial (Below.refl _ _) (Nat.le_refl _) (by simp) ?_; (case hd => rfl); (case hg => rfl); (case hr => first | (go_simp; done) | (go_simp; rfl)); (case hp => exact (Reps.c3 (show Kd.M k85 _ _ _ (⟨aG, aH, aI⟩ : S85) [.bool aG, .string aH, .string aI] from (k85_mkM _ _ _ (⟨aG, aH, aI⟩ : S85) )) (Reps.c3 (show Kd.M k85 _ _ _ (⟨aJ, aK, aL⟩ : S85) [.bool aJ, .string aK, .string aL] from (k85_mkM _ _ _ (⟨aJ, aK, aL⟩ : S85) )) (Reps.none _ _))))
      intro v195 w56 ho57 hb hg_ hnew_
      clear hg_ hnew_
      (first | rw [← Ny194.out] at ho57 | (simp only [Int.reduceToNat] at ho57; rw [← Ny194.out] at ho57))
      have n0_ := Aside0.mk (Kd.R_below (by (with_reducible repeat (first | apply Kd.R_alloc | apply Kd.R_drewN | apply Kd.R_drew)); exact HO187.out) hb)
      have n1_ := Aside0.mk (Kd.R_lower ho57 (below_size (by repeat (first | (with_reducible first | exact HB.out | apply below_alloc | apply pw_below_drewN | apply below_drew1 | refine below_set ?_ ao.out | refine below_set ?_ au.out | refine below_set ?_ aD.out | refine below_set ?_ aM.out) | exact HB.out))))
      have n2_ := Aside0.mk (blk_below (g := ab) (o := .cells #[.string ad, .int .i64 ae, .int .i64 ag, .bool ah, .bool ai, .int .i64 aj, .int .i64 ac, .int .i64 af, .int .i64 ak] 27 (0, 0)) (by (with_reducible repeat (first | refine blk_drewN ?_ _ | refine blk_drew ?_ | refine blk_alloc ?_ _)); exact aa.out) hb)
      have n3_ := Aside0.mk (blk_below (g := al) (o := .cells #[.slice none 0 0, .slice none 0 0] 34 (0, 0)) (by (with_reducible repeat (first | refine blk_drewN ?_ _ | refine blk_drew ?_ | refine blk_alloc ?_ _)); exact am.out) hb)
      have n4_ := Aside0.mk (blk_below (g := av) (o := .cells #[.string ad, .int .i64 ae, .int .i64 a3, .bool true] 23 (0, 0)) (by (with_reducible repeat (first | refine blk_drewN ?_ _ | refine blk_drew ?_ | refine blk_alloc ?_ _)); exact an.out) hb)
      have n5_ := Aside0.mk (blk_below (g := ap) (o := .cells #[.int .i64 (wrap64 (ac - 1)), .int .i64 af] 25 (0, 0)) (by (with_reducible repeat (first | refine blk_drewN ?_ _ | refine blk_drew ?_ | refine blk_alloc ?_ _)); exact aq.out) hb)
      have n6_ := Aside0.mk (below_step (by repeat (first | (with_reducible first | exact HB.out | apply below_alloc | apply pw_below_drewN | apply below_drew1 | refine below_set ?_ ao.out | refine below_set ?_ au.out | refine below_set ?_ aD.out | refine below_set ?_ aM.out) | exact HB.out)) hb)
      clear HO187
      clear aa
      clear am
      clear an
      clear aq
      clear HB
      have HO187 := n0_
      have HO196 := n1_
      have aa := n2_
      have am := n3_
      have an := n4_
      have aq := n5_
      have HB := n6_
      clear n0_ n1_ n2_ n3_ n4_ n5_ n6_
      clear hb ho57
      obtain ⟨Ao58, co58, eo58⟩ := Kd.R_slice HO196.out
      (first | subst eo58 | (injection eo58 with f1_ f2_ f3_; have f4_ := f1_.symm; have f5_ := f3_.symm; clear f1_ f2_ f3_; subst f4_; subst f5_))
      obtain ⟨Ao59, co59, eo59⟩ := Kd.R_slice HO187.out
      (first | subst eo59 | (injection eo59 with f1_ f2_ f3_; have f4_ := f1_.symm; have f5_ := f3_.symm; clear f1_ f2_ f3_; subst f4_; subst f5_))
      refine hK.out _ _ ⟨(blk_cell aa.out 0).trans rfl, (blk_cell aa.out 1).trans rfl, (blk_cell aa.out 2).trans rfl, (blk_cell aa.out 3).trans rfl, (blk_cell aa.out 4).trans rfl, (blk_cell aa.out 5).trans rfl, (blk_cell aa.out 6).trans rfl, (blk_cell aa.out 7).trans rfl, (blk_cell aa.out 8).trans rfl, (blk_cell an.out 0).trans rfl, (blk_cell an.out 1).trans rfl, (blk_cell an.out 2).trans rfl, (blk_cell an.out 3).trans rfl, (blk_cell aq.out 0).trans rfl, (blk_cell aq.out 1).trans rfl⟩ (fun hHeld => ?_)
      clear hK K
      refine norm_ (a' := ?_) ?_ ?_
      rotate_left
      ·
       show Act.put _ (some 60) _ = _
       simp only [Act.put, List.setIfInBounds_toArray, List.set_cons_zero, List.set_cons_succ, i64_w, i32_w]
       rfl
      refine pure_ (i := 12) (N := some 61) (v := ?_) (a' := ?_) #[true, true, true, true, true, true, true, true, true, true, true, true, true, false, false] rfl rfl (any_of HT_.out (by kernel_rfl)) (fun _ _ _ h => h) (Or.inl ⟨by rfl, ?_⟩) ?_ ?_
      rotate_left
      ·
       intro w'
       go_simp
       with_reducible rfl
      rotate_left
      ·
       simp only [Act.put, List.setIfInBounds_toArray, List.set_cons_zero, List.set_cons_succ, i64_w, i32_w]
       rfl
      refine one_ (i := 13) (N := none) #[true, true, true, true, true, true, true, true, true, true, true, true, true, true, false] rfl rfl (one_of HT_.out (by kernel_rfl)) (by decide) (fun K hK => ?_)
      have hs60 : w56.cell? ⟨al, 0, none⟩ = some (.slice none 0 0) := (blk_cell am.out 0).trans rfl
      have hfs60 := blk_frozen am.out 0
      have hns60_0 := ar.out
      have hns60_2 := aE.out
      have hns60_3 := aN.out
      have hms60_0 := aB.out
      have hms60_2 := aw.out
      have hms60_3 := aP.out
      have hs61 : w56.cell? ⟨al, 1, none⟩ = some (.slice none 0 0) := (blk_cell am.out 1).trans rfl
      have hfs61 := blk_frozen am.out 1
      have hns61_0 := ar.out
      have hns61_2 := aE.out
      have hns61_3 := aN.out
      have hms61_0 := aB.out
      have hms61_2 := aw.out
      have hms61_3 := aP.out
      refine skip_ (w1 := ?_) (by rfl) rfl ?_ ?_
      rotate_left
      ·
       go_simp
       rfl
      refine hK.out _ _ ⟨((cell_far (p := ⟨al, _, none⟩) ar.out _).trans (((cell_far (p := ⟨al, _, none⟩) ar.out _).trans (hHeld.1)))), ((cell_far (p := ⟨al, _, none⟩) ar.out _).trans (((cell_far (p := ⟨al, _, none⟩) ar.out _).trans (hHeld.2.1)))), ((cell_far (p := ⟨al, _, none⟩) ar.out _).trans (((cell_far (p := ⟨al, _, none⟩) ar.out _).trans (hHeld.2.2.1)))), ((cell_far (p := ⟨al, _, none⟩) ar.out _).trans (((cell_far (p := ⟨al, _, none⟩) ar.out _).trans (hHeld.2.2.2.1)))), ((cell_far (p := ⟨al, _, none⟩) ar.out _).trans (((cell_far (p := ⟨al, _, none⟩) ar.out _).trans (hHeld.2.2.2.2.1)))), ((cell_far (p := ⟨al, _, none⟩) ar.out _).trans (((cell_far (p := ⟨al, _, none⟩) ar.out _).trans (hHeld.2.2.2.2.2.1)))), ((cell_far (p := ⟨al, _, none⟩) ar.out _).trans (((cell_far (p := ⟨al, _, none⟩) ar.out _).trans (hHeld.2.2.2.2.2.2.1)))), ((cell_far (p := ⟨al, _, none⟩) ar.out _).trans (((cell_far (p := ⟨al, _, none⟩) ar.out _).trans (hHeld.2.2.2.2.2.2.2.1)))), ((cell_far (p := ⟨al, _, none⟩) ar.out _).trans (((cell_far (p := ⟨al, _, none⟩) ar.out _).trans (hHeld.2.2.2.2.2.2.2.2.1)))), ((cell_far (p := ⟨al, _, none⟩) aE.out _).trans (((cell_far (p := ⟨al, _, none⟩) aE.out _).trans (hHeld.2.2.2.2.2.2.2.2.2.1)))), ((cell_far (p := ⟨al, _, none⟩) aE.out _).trans (((cell_far (p := ⟨al, _, none⟩) aE.out _).trans (hHeld.2.2.2.2.2.2.2.2.2.2.1)))), ((cell_far (p := ⟨al, _, none⟩) aE.out _).trans (((cell_far (p := ⟨al, _, none⟩) aE.out _).trans (hHeld.2.2.2.2.2.2.2.2.2.2.2.1)))), ((cell_far (p := ⟨al, _, none⟩) aE.out _).trans (((cell_far (p := ⟨al, _, none⟩) aE.out _).trans (hHeld.2.2.2.2.2.2.2.2.2.2.2.2.1)))), ((cell_far (p := ⟨al, _, none⟩) aN.out _).trans (((cell_far (p := ⟨al, _, none⟩) aN.out _).trans (hHeld.2.2.2.2.2.2.2.2.2.2.2.2.2.1)))), ((cell_far (p := ⟨al, _, none⟩) aN.out _).trans (((cell_far (p := ⟨al, _, none⟩) aN.out _).trans (hHeld.2.2.2.2.2.2.2.2.2.2.2.2.2.2))))⟩ (fun hHeld => ?_)
      clear hK K
      refine pure_ (i := 14) (N := some 9) (v := ?_) (a' := ?_) #[true, true, true, true, true, true, true, true, true, true, true, true, true, true, true] rfl rfl (any_of HT_.out (by kernel_rfl)) (fun _ _ _ h => h) (Or.inl ⟨by rfl, ?_⟩) ?_ ?_
      rotate_left
      ·
       intro w'
       go_simp
       with_reducible rfl
      rotate_left
      ·
       simp only [Act.put, List.setIfInBounds_toArray, List.set_cons_zero, List.set_cons_succ, i64_w, i32_w]
       rfl
      refine done_ (done_of HT_.out (by kernel_rfl)) ?_
      try go_wp2
      refine bodyPost_ret (results_ct rfl _ _ al 34 #[.slice Ao59 aA.length co59, .slice Ao58 aR.length co58] (0, 0) _ rfl (by (with_reducible repeat (first | refine blk_drewN ?_ _ | refine blk_drew ?_ | refine blk_alloc ?_ _)); refine blk_put (cs := #[.slice Ao59 aA.length co59, .slice none 0 0]) ?_ 1 _ rfl; (with_reducible repeat (first | refine blk_drewN ?_ _ | refine blk_drew ?_ | refine blk_alloc ?_ _)); refine blk_put (cs := #[.slice none 0 0, .slice none 0 0]) ?_ 0 _ rfl; (with_reducible repeat (first | refine blk_drewN ?_ _ | refine blk_drew ?_ | refine blk_alloc ?_ _)); exact am.out) Try.underlying34 rfl (by kernel_rfl)) rfl ?_
      exact ⟨_, _, by first | rfl | (simp [errW_none, errW_some] <;> rfl) | (simp [*, errW_none, errW_some] <;> rfl), by (with_reducible repeat (first | apply Kd.R_alloc | apply Kd.R_drewN | apply Kd.R_drew)); exact Kd.R_mono (Kd.R_far (p := ⟨al, 1, none⟩) (Kd.R_far (p := ⟨al, 0, none⟩) (Kd.R_types HO187.out am.out (by decide)) (fun _ hk => hk.2) (.slice Ao59 aA.length co59)) (fun _ hk => hk.2) (.slice Ao58 aR.length co58)) (fun _ hk => trivial), by (with_reducible repeat (first | apply Kd.R_alloc | apply Kd.R_drewN | apply Kd.R_drew)); exact Kd.R_mono (Kd.R_far (p := ⟨al, 1, none⟩) (Kd.R_far (p := ⟨al, 0, none⟩) (Kd.R_types HO196.out am.out (by decide)) (fun _ hk => hk.2) (.slice Ao59 aA.length co59)) (fun _ hk => hk.2) (.slice Ao58 aR.length co58)) (fun _ hk => trivial), by repeat (first | (with_reducible first | exact HB.out | apply below_alloc | apply pw_below_drewN | apply below_drew1 | refine below_set ?_ ao.out | refine below_set ?_ au.out | refine below_set ?_ aD.out | refine below_set ?_ aM.out) | exact HB.out)⟩
  ·
   replace c12 := Bool.eq_false_iff.mpr c12
   subst c12
   have H1 : (some (([] : List (S73)), ([] : List (S85)), 4)) = some (r1, r2, r3) := by rw [if_neg (show ¬ (false = true) by decide)] at H; exact H
   clear H
   have H := H1
   clear H1
   simp only [Option.some.injEq, Prod.mk.injEq] at H
   obtain ⟨rfl, rfl, rfl⟩ := H
   go_enter Try.func35, Try.ntmps35
   go_wp2_with (first | ((with_reducible refine gate_dst (N := 4) rfl ?_); refine box_event ?hg (N := 4) ?hd (cs := #[.string ad, .int .i64 ae, .int .i64 ag, .bool ah, .bool ai, .int .i64 aj, .int .i64 ac, .int .i64 af, .int .i64 ak]) (t := 27) ?hr ?_; (case hd => rfl); (case hg => rfl); (case hr => first | (go_simp; done) | (go_simp; rfl)); intro ab hg w62 hbox hb; have n0_ := Aside0.mk (below_step (by repeat (first | (with_reducible first | exact HB.out | apply below_alloc | apply pw_below_drewN | apply below_drew1) | exact HB.out)) hb); have n1_ := Aside0.mk (hbox); have n2_ := Aside0.mk ((by rw [hg]; exact (below_size (by repeat (first | (with_reducible first | exact HB.out | apply below_alloc | apply pw_below_drewN | apply below_drew1) | exact HB.out))) : w.heap.size ≤ ab)); have n3_ := Aside0.mk ((by rw [hg]; exact (below_size (by repeat (first | (with_reducible first | exact HB.out | apply below_alloc | apply pw_below_drewN | apply below_drew1) | exact HB.out))) : w.heap.size ≤ ab)); clear HB; have HB := n0_; have aa := n1_; have GW178 := n2_; have ao := n3_; clear n0_ n1_ n2_ n3_; clear hb hbox hg) | ((with_reducible refine gate_dst (N := 8) rfl ?_); refine box_event ?hg (N := 8) ?hd (cs := #[.slice none 0 0, .slice none 0 0]) (t := 34) ?hr ?_; (case hd => rfl); (case hg => rfl); (case hr => first | (go_simp; done) | (go_simp; rfl)); intro al hg w63 hbox hb; have n0_ := Aside0.mk (blk_below (g := ab) (o := .cells #[.string ad, .int .i64 ae, .int .i64 ag, .bool ah, .bool ai, .int .i64 aj, .int .i64 ac, .int .i64 af, .int .i64 ak] 27 (0, 0)) (by (with_reducible repeat (first | refine blk_drewN ?_ _ | refine blk_drew ?_ | refine blk_alloc ?_ _)); exact aa.out) hb); have n1_ := Aside0.mk (below_step (by repeat (first | (with_reducible first | exact HB.out | apply below_alloc | apply pw_below_drewN | apply below_drew1 | refine below_set ?_ ao.out) | exact HB.out)) hb); have n2_ := Aside0.mk (hbox); have n3_ := Aside0.mk ((by rw [hg]; exact (below_size (by repeat (first | (with_reducible first | exact HB.out | apply below_alloc | apply pw_below_drewN | apply below_drew1 | refine below_set ?_ ao.out) | exact HB.out))) : w.heap.size ≤ al)); have n4_ := Aside0.mk ((by rw [hg]; exact (below_size (by repeat (first | (with_reducible first | exact HB.out | apply below_alloc | apply pw_below_drewN | apply below_drew1 | refine below_set ?_ ao.out) | exact HB.out))) : w.heap.size ≤ al)); have n5_ := Aside0.mk ((by rw [hg]; exact Nat.ne_of_lt (blk_lt (g := ab) (o := .cells #[.string ad, .int .i64 ae, .int .i64 ag, .bool ah, .bool ai, .int .i64 aj, .int .i64 ac, .int .i64 af, .int .i64 ak] 27 (0, 0)) (by (with_reducible repeat (first | refine blk_drewN ?_ _ | refine blk_drew ?_ | refine blk_alloc ?_ _)); exact aa.out)) : ab ≠ al)); have n6_ := Aside0.mk ((by rw [hg]; exact Nat.ne_of_gt (blk_lt (g := ab) (o := .cells #[.string ad, .int .i64 ae, .int .i64 ag, .bool ah, .bool ai, .int .i64 aj, .int .i64 ac, .int .i64 af, .int .i64 ak] 27 (0, 0)) (by (with_reducible repeat (first | refine blk_drewN ?_ _ | refine blk_drew ?_ | refine blk_alloc ?_ _)); exact aa.out)) : al ≠ ab)); clear aa; clear HB; have aa := n0_; have HB := n1_; have am := n2_; have GW179 := n3_; have au := n4_; have ar := n5_; have aB := n6_; clear n0_ n1_ n2_ n3_ n4_ n5_ n6_; clear hb hbox hg) | ((with_reducible refine gate_callee (f := 109) rfl ?_); refine goesL_ (some 15) rfl rfl Try.func109 (by kernel_rfl) rfl #[.string a1, .string a2, .int .i64 a3] rfl (by (try simp only [List.map_toArray, List.map_cons, List.map_nil]); first | done | rfl | (simp only [List.length_drop, List.length_take]; rfl)) ?_; (with_reducible refine (batonref20_wrong.calls a1 a2 a3 false _ A5.out).mono ?_); rintro e w' ⟨rfl, ⟨nd, rfl⟩⟩; refine ⟨_, rfl, ?_⟩; (try (rw [drewN_self w63]; generalize hq_ : World.drewN w63 _ = w63; have n0_ : Aside0 (w63.heap[ab]? = some (.cells #[.string ad, .int .i64 ae, .int .i64 ag, .bool ah, .bool ai, .int .i64 aj, .int .i64 ac, .int .i64 af, .int .i64 ak] 27 (0, 0))) := ⟨by rw [← hq_]; exact (by (with_reducible repeat (first | refine blk_drewN ?_ _ | refine blk_drew ?_ | refine blk_alloc ?_ _)); exact aa.out)⟩; have n1_ : Aside0 (w63.heap[al]? = some (.cells #[.slice none 0 0, .slice none 0 0] 34 (0, 0))) := ⟨by rw [← hq_]; exact (by (with_reducible repeat (first | refine blk_drewN ?_ _ | refine blk_drew ?_ | refine blk_alloc ?_ _)); exact am.out)⟩; have n2_ : Aside0 (Below w.heap.size w w63) := ⟨by rw [← hq_]; exact (by repeat (first | (with_reducible first | exact HB.out | apply below_alloc | apply pw_below_drewN | apply below_drew1 | refine below_set ?_ ao.out | refine below_set ?_ au.out) | exact HB.out))⟩; clear aa am HB hq_; have aa := n0_; have am := n1_; have HB := n2_; clear n0_ n1_ n2_)); have el := ar.out; have em := aB.out; have en : w63.cell? ⟨ab, 0, none⟩ = some (.string ad) := (blk_cell aa.out 0).trans rfl; have eo : w63.cell? ⟨ab, 1, none⟩ = some (.int .i64 ae) := (blk_cell aa.out 1).trans rfl; have ep : w63.cell? ⟨ab, 2, none⟩ = some (.int .i64 ag) := (blk_cell aa.out 2).trans rfl; have eq : w63.cell? ⟨ab, 3, none⟩ = some (.bool ah) := (blk_cell aa.out 3).trans rfl; have er : w63.cell? ⟨ab, 4, none⟩ = some (.bool ai) := (blk_cell aa.out 4).trans rfl; have es : w63.cell? ⟨ab, 5, none⟩ = some (.int .i64 aj) := (blk_cell aa.out 5).trans rfl; have et : w63.cell? ⟨ab, 6, none⟩ = some (.int .i64 ac) := (blk_cell aa.out 6).trans rfl; have eu : w63.cell? ⟨ab, 7, none⟩ = some (.int .i64 af) := (blk_cell aa.out 7).trans rfl; have ev : w63.cell? ⟨ab, 8, none⟩ = some (.int .i64 ak) := (blk_cell aa.out 8).trans rfl; have ew := blk_frozen aa.out 0; have ex := blk_frozen aa.out 1; have ey := blk_frozen aa.out 2; have ez := blk_frozen aa.out 3; have eA := blk_frozen aa.out 4; have eB := blk_frozen aa.out 5; have eC := blk_frozen aa.out 6; have eD := blk_frozen aa.out 7; have eE := blk_frozen aa.out 8) | ((with_reducible refine gate_callee (f := 29) rfl ?_); refine goesL_ (some 18) rfl rfl Try.func29 (by kernel_rfl) rfl #[.agg #[.string ad, .int .i64 ae, .int .i64 ag, .bool ah, .bool ai, .int .i64 aj, .int .i64 ac, .int .i64 af, .int .i64 ak]] rfl (by (try simp only [List.map_toArray, List.map_cons, List.map_nil]); first | done | rfl | (simp only [List.length_drop, List.length_take]; rfl)) ?_; (with_reducible refine (batonref20_May.calls k ad ae ag ah ai aj ac af ak false _ A11.out).mono ?_); rintro e w66 ⟨rfl, hb⟩; refine ⟨_, rfl, ?_⟩; have n0_ := Aside0.mk (blk_below (g := ab) (o := .cells #[.string ad, .int .i64 ae, .int .i64 ag, .bool ah, .bool ai, .int .i64 aj, .int .i64 ac, .int .i64 af, .int .i64 ak] 27 (0, 0)) (by (with_reducible repeat (first | refine blk_drewN ?_ _ | refine blk_drew ?_ | refine blk_alloc ?_ _)); exact aa.out) hb); have n1_ := Aside0.mk (blk_below (g := al) (o := .cells #[.slice none 0 0, .slice none 0 0] 34 (0, 0)) (by (with_reducible repeat (first | refine blk_drewN ?_ _ | refine blk_drew ?_ | refine blk_alloc ?_ _)); exact am.out) hb); have n2_ := Aside0.mk (below_step (by repeat (first | (with_reducible first | exact HB.out | apply below_alloc | apply pw_below_drewN | apply below_drew1 | refine below_set ?_ ao.out | refine below_set ?_ au.out) | exact HB.out)) hb); clear aa; clear am; clear HB; have aa := n0_; have am := n1_; have HB := n2_; clear n0_ n1_ n2_; (try clear hb); (try clear hb2); (try clear hk); (try clear hi); have eF : w66.cell? ⟨al, 0, none⟩ = some (.slice none 0 0) := (blk_cell am.out 0).trans rfl; have eG : w66.cell? ⟨al, 1, none⟩ = some (.slice none 0 0) := (blk_cell am.out 1).trans rfl; have eH := blk_frozen am.out 0; have eI := blk_frozen am.out 1))
   refine bodyPost_ret (results_ct rfl _ _ al 34 #[.slice none 0 0, .slice none 0 0] (0, 0) _ rfl (by (with_reducible repeat (first | refine blk_drewN ?_ _ | refine blk_drew ?_ | refine blk_alloc ?_ _)); refine blk_put (cs := #[.slice none 0 0, .slice none 0 0]) ?_ 1 _ rfl; (with_reducible repeat (first | refine blk_drewN ?_ _ | refine blk_drew ?_ | refine blk_alloc ?_ _)); refine blk_put (cs := #[.slice none 0 0, .slice none 0 0]) ?_ 0 _ rfl; (with_reducible repeat (first | refine blk_drewN ?_ _ | refine blk_drew ?_ | refine blk_alloc ?_ _)); exact am.out) Try.underlying34 rfl (by kernel_rfl)) rfl ?_
   exact ⟨_, _, by first | rfl | (simp [errW_none, errW_some] <;> rfl) | (simp [*, errW_none, errW_some] <;> rfl), by first | exact Kd.R_nil _ _ _ _ _ | exact Kd.N_nil _ _ _ _ _ | exact Kd.V_nil _ _ _ _ _ | exact Kd.Q_nil _ _ _ _ _ | exact Kd.S_nil _ _ _ _ _, by first | exact Kd.R_nil _ _ _ _ _ | exact Kd.N_nil _ _ _ _ _ | exact Kd.V_nil _ _ _ _ _ | exact Kd.Q_nil _ _ _ _ _ | exact Kd.S_nil _ _ _ _ _, by repeat (first | (with_reducible first | exact HB.out | apply below_alloc | apply pw_below_drewN | apply below_drew1 | refine below_set ?_ ao.out | refine below_set ?_ au.out) | exact HB.out)⟩
end Go.Proofs.Ytobanhbjkomieaa.PEl
