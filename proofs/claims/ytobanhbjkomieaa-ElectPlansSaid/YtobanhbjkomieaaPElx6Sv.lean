import Derived.Test.YtobanhbjkomieaaPElx0Sv
import Derived.Test.YtobanhbjkomieaaPElx3Sv
import Derived.Test.YtobanhbjkomieaaPElx4Sv
namespace Go.Proofs.Ytobanhbjkomieaa.PEl
open Go.RowKit Go.Proofs.YtobanhbjkomieaaW.PrintWords Go.Proofs.YtobanhbjkomieaaW.PrintLast Go.Proofs.YtobanhbjkomieaaW.PrintMore
attribute [local go_sem] max2_int min2_int max_two min_two max_three min_three max_four min_four   -- for this text's walks alone
set_option linter.unusedVariables false
set_option linter.unusedSimpArgs false
def batonref20_Renew.j0 : Nat → ByteArray → ByteArray → Int → Bool → ByteArray → Int → Int → Bool → Bool → Int → Int → Int → Int → Option ((List (S73)) × (List (S85)) × Int)
 | 0, _, _, _, _, _, _, _, _, _, _, _, _, _ => none
 | k + 1, x1, x2, x3, x29, aK, aL, aN, aM, aO, aP, aQ, aR, aS => if x29 = true then (some (([] : List (S73)), ([] : List (S85)), 46)) else ((batonref20_conds.f aK aL aN aM aO aP aQ aR aS x1 x2 false).bind fun av => ((batonref20_puts.f x1 x2 aK aL x3 aM).bind fun aw => (some (av, (([(⟨aw.1, aw.2.1, aw.2.2⟩ : S85)] : List (S85))), 0))))
def batonref20_Renew.f (k : Nat) (ac : ByteArray) (ad : Int) (ae : Int) (af : Bool) (ag : Bool) (ah : Int) (ai : Int) (aj : Int) (ak : Int) (a1 : ByteArray) (a2 : ByteArray) (a3 : Int) : Option ((List (S73)) × (List (S85)) × Int) := (batonref20_wrong.f a1 a2 a3).bind fun aF => (if aF = true then (some (([] : List (S73)), ([] : List (S85)), 1)) else ((batonref20_May.f k ac ad ae af ag ah ai aj ak).bind fun az => (if az = true then ((batonref20_Live.f ac ad ae af ag ah ai aj ak).bind fun au => (if au = true then (batonref20_Renew.j0 k a1 a2 a3 (decide (a3 ≤ ae)) ac ad ae af ag ah ai aj ak) else (batonref20_Renew.j0 k a1 a2 a3 true ac ad ae af ag ah ai aj ak))) else (some (([] : List (S73)), ([] : List (S85)), 4)))))
def batonref20_Renew.T9 : Bool × List (List Nat × List Nat) := (true, [([], []), ([], []), ([], []), ([0, 1, 2], [0, 1, 2]), ([], []), ([], []), ([], []), ([4, 5, 6, 3], [4, 5, 6]), ([7], [7]), ([3, 8], [3, 8]), ([9, 7, 0, 1, 2, 3, 4, 5, 6, 7, 8, 9], [9]), ([10, 0, 1, 2, 3, 4, 5, 6, 7, 8, 9, 10], [])])
def batonref20_Renew.B9 : List Nat := [0, 0, 0, 7, 0, 0, 0, 127, 255, 511, 1023, 2047]
theorem batonref20_Renew.tab9 : rtab .any (opsOf Try.f33 9) = batonref20_Renew.T9 := by kernel_rfl
theorem batonref20_Renew.bits9 : waitsOk batonref20_Renew.T9.2 batonref20_Renew.B9 = true := by kernel_rfl
set_option maxHeartbeats 8000000 in
set_option maxRecDepth 100000 in
theorem batonref20_Renew.calls (k : Nat) (ac : ByteArray) (ad : Int) (ae : Int) (af : Bool) (ag : Bool) (ah : Int) (ai : Int) (aj : Int) (ak : Int) (a1 : ByteArray) (a2 : ByteArray) (a3 : Int) (r1 : List (S73)) (r2 : List (S85)) (r3 : Int) (w : World) (h : batonref20_Renew.f k ac ad ae af ag ah ai aj ak a1 a2 a3 = some (r1, r2, r3)) :
  Calls Try.prog 33 #[.agg #[.string ac, .int .i64 ad, .int .i64 ae, .bool af, .bool ag, .int .i64 ah, .int .i64 ai, .int .i64 aj, .int .i64 ak], .string a1, .string a2, .int .i64 a3] w fun e w' => ∃ v0_ v1_ : Value, e = .returned (.tuple #[.agg #[v0_, v1_], .int .i64 r3]) ∧ Kd.R k73 73 w' w.heap.size (fun _ => True) v0_ r1 ∧ Kd.R k85 85 w' w.heap.size (fun _ => True) v1_ r2 ∧ Below w.heap.size w w' := by
 have hu27 := Try.underlying27
 have hu34 := Try.underlying34
 have hu23 := Try.underlying23
 have HB := Aside0.mk (Below.refl w.heap.size w)
 have H : ((batonref20_wrong.f a1 a2 a3).bind fun aF => (if aF = true then (some (([] : List (S73)), ([] : List (S85)), 1)) else ((batonref20_May.f k ac ad ae af ag ah ai aj ak).bind fun az => (if az = true then ((batonref20_Live.f ac ad ae af ag ah ai aj ak).bind fun au => (if au = true then (batonref20_Renew.j0 k a1 a2 a3 (decide (a3 ≤ ae)) ac ad ae af ag ah ai aj ak) else (batonref20_Renew.j0 k a1 a2 a3 true ac ad ae af ag ah ai aj ak))) else (some (([] : List (S73)), ([] : List (S85)), 4)))))) = some (r1, r2, r3) := h
 clear h
 replace H := Option.bind_eq_some_iff.mp H
 obtain ⟨aF, A50, H⟩ := H
 replace H : (if aF = true then (some (([] : List (S73)), ([] : List (S85)), 1)) else ((batonref20_May.f k ac ad ae af ag ah ai aj ak).bind fun az => (if az = true then ((batonref20_Live.f ac ad ae af ag ah ai aj ak).bind fun au => (if au = true then (batonref20_Renew.j0 k a1 a2 a3 (decide (a3 ≤ ae)) ac ad ae af ag ah ai aj ak) else (batonref20_Renew.j0 k a1 a2 a3 true ac ad ae af ag ah ai aj ak))) else (some (([] : List (S73)), ([] : List (S85)), 4))))) = some (r1, r2, r3) := H
 have A5 := Aside0.mk A50
 clear A50
 by_cases c6 : aF = true
 ·
  subst c6
  have H1 : (some (([] : List (S73)), ([] : List (S85)), 1)) = some (r1, r2, r3) := by rw [if_pos rfl] at H; exact H
  clear H
  have H := H1
  clear H1
  simp only [Option.some.injEq, Prod.mk.injEq] at H
  obtain ⟨rfl, rfl, rfl⟩ := H
  go_enter Try.func33, Try.ntmps33
  go_wp2_with (first | ((with_reducible refine gate_dst (N := 4) rfl ?_); refine box_event ?hg (N := 4) ?hd (cs := #[.string ac, .int .i64 ad, .int .i64 ae, .bool af, .bool ag, .int .i64 ah, .int .i64 ai, .int .i64 aj, .int .i64 ak]) (t := 27) ?hr ?_; (case hd => rfl); (case hg => rfl); (case hr => first | (go_simp; done) | (go_simp; rfl)); intro ab hg w7 hbox hb; have n0_ := Aside0.mk (below_step (by repeat (first | (with_reducible first | exact HB.out | apply below_alloc | apply pw_below_drewN | apply below_drew1) | exact HB.out)) hb); have n1_ := Aside0.mk (hbox); have n2_ := Aside0.mk ((by rw [hg]; exact (below_size (by repeat (first | (with_reducible first | exact HB.out | apply below_alloc | apply pw_below_drewN | apply below_drew1) | exact HB.out))) : w.heap.size ≤ ab)); have n3_ := Aside0.mk ((by rw [hg]; exact (below_size (by repeat (first | (with_reducible first | exact HB.out | apply below_alloc | apply pw_below_drewN | apply below_drew1) | exact HB.out))) : w.heap.size ≤ ab)); clear HB; have HB := n0_; have aa := n1_; have GW163 := n2_; have ap := n3_; clear n0_ n1_ n2_ n3_; clear hb hbox hg) | ((with_reducible refine gate_dst (N := 8) rfl ?_); refine box_event ?hg (N := 8) ?hd (cs := #[.slice none 0 0, .slice none 0 0]) (t := 34) ?hr ?_; (case hd => rfl); (case hg => rfl); (case hr => first | (go_simp; done) | (go_simp; rfl)); intro al hg w8 hbox hb; have n0_ := Aside0.mk (blk_below (g := ab) (o := .cells #[.string ac, .int .i64 ad, .int .i64 ae, .bool af, .bool ag, .int .i64 ah, .int .i64 ai, .int .i64 aj, .int .i64 ak] 27 (0, 0)) (by (with_reducible repeat (first | refine blk_drewN ?_ _ | refine blk_drew ?_ | refine blk_alloc ?_ _)); exact aa.out) hb); have n1_ := Aside0.mk (below_step (by repeat (first | (with_reducible first | exact HB.out | apply below_alloc | apply pw_below_drewN | apply below_drew1 | refine below_set ?_ ap.out) | exact HB.out)) hb); have n2_ := Aside0.mk (hbox); have n3_ := Aside0.mk ((by rw [hg]; exact (below_size (by repeat (first | (with_reducible first | exact HB.out | apply below_alloc | apply pw_below_drewN | apply below_drew1 | refine below_set ?_ ap.out) | exact HB.out))) : w.heap.size ≤ al)); have n4_ := Aside0.mk ((by rw [hg]; exact (below_size (by repeat (first | (with_reducible first | exact HB.out | apply below_alloc | apply pw_below_drewN | apply below_drew1 | refine below_set ?_ ap.out) | exact HB.out))) : w.heap.size ≤ al)); have n5_ := Aside0.mk ((by rw [hg]; exact Nat.ne_of_lt (blk_lt (g := ab) (o := .cells #[.string ac, .int .i64 ad, .int .i64 ae, .bool af, .bool ag, .int .i64 ah, .int .i64 ai, .int .i64 aj, .int .i64 ak] 27 (0, 0)) (by (with_reducible repeat (first | refine blk_drewN ?_ _ | refine blk_drew ?_ | refine blk_alloc ?_ _)); exact aa.out)) : ab ≠ al)); have n6_ := Aside0.mk ((by rw [hg]; exact Nat.ne_of_gt (blk_lt (g := ab) (o := .cells #[.string ac, .int .i64 ad, .int .i64 ae, .bool af, .bool ag, .int .i64 ah, .int .i64 ai, .int .i64 aj, .int .i64 ak] 27 (0, 0)) (by (with_reducible repeat (first | refine blk_drewN ?_ _ | refine blk_drew ?_ | refine blk_alloc ?_ _)); exact aa.out)) : al ≠ ab)); clear aa; clear HB; have aa := n0_; have HB := n1_; have am := n2_; have GW164 := n3_; have ar := n4_; have aq := n5_; have ax := n6_; clear n0_ n1_ n2_ n3_ n4_ n5_ n6_; clear hb hbox hg) | ((with_reducible refine gate_callee (f := 109) rfl ?_); refine goesL_ (some 14) rfl rfl Try.func109 (by kernel_rfl) rfl #[.string a1, .string a2, .int .i64 a3] rfl (by (try simp only [List.map_toArray, List.map_cons, List.map_nil]); first | done | rfl | (simp only [List.length_drop, List.length_take]; rfl)) ?_; (with_reducible refine (batonref20_wrong.calls a1 a2 a3 true _ A5.out).mono ?_); rintro e w' ⟨rfl, ⟨nd, rfl⟩⟩; refine ⟨_, rfl, ?_⟩; (try (rw [drewN_self w8]; generalize hq_ : World.drewN w8 _ = w8; have n0_ : Aside0 (w8.heap[ab]? = some (.cells #[.string ac, .int .i64 ad, .int .i64 ae, .bool af, .bool ag, .int .i64 ah, .int .i64 ai, .int .i64 aj, .int .i64 ak] 27 (0, 0))) := ⟨by rw [← hq_]; exact (by (with_reducible repeat (first | refine blk_drewN ?_ _ | refine blk_drew ?_ | refine blk_alloc ?_ _)); exact aa.out)⟩; have n1_ : Aside0 (w8.heap[al]? = some (.cells #[.slice none 0 0, .slice none 0 0] 34 (0, 0))) := ⟨by rw [← hq_]; exact (by (with_reducible repeat (first | refine blk_drewN ?_ _ | refine blk_drew ?_ | refine blk_alloc ?_ _)); exact am.out)⟩; have n2_ : Aside0 (Below w.heap.size w w8) := ⟨by rw [← hq_]; exact (by repeat (first | (with_reducible first | exact HB.out | apply below_alloc | apply pw_below_drewN | apply below_drew1 | refine below_set ?_ ap.out | refine below_set ?_ ar.out) | exact HB.out))⟩; clear aa am HB hq_; have aa := n0_; have am := n1_; have HB := n2_; clear n0_ n1_ n2_)); have cc := ax.out; have cd := aq.out; have aT : w8.cell? ⟨al, 0, none⟩ = some (.slice none 0 0) := (blk_cell am.out 0).trans rfl; have aU : w8.cell? ⟨al, 1, none⟩ = some (.slice none 0 0) := (blk_cell am.out 1).trans rfl; have aV := blk_frozen am.out 0; have aW := blk_frozen am.out 1))
  refine bodyPost_ret (results_ct rfl _ _ al 34 #[.slice none 0 0, .slice none 0 0] (0, 0) _ rfl (by (with_reducible repeat (first | refine blk_drewN ?_ _ | refine blk_drew ?_ | refine blk_alloc ?_ _)); refine blk_put (cs := #[.slice none 0 0, .slice none 0 0]) ?_ 1 _ rfl; (with_reducible repeat (first | refine blk_drewN ?_ _ | refine blk_drew ?_ | refine blk_alloc ?_ _)); refine blk_put (cs := #[.slice none 0 0, .slice none 0 0]) ?_ 0 _ rfl; (with_reducible repeat (first | refine blk_drewN ?_ _ | refine blk_drew ?_ | refine blk_alloc ?_ _)); exact am.out) Try.underlying34 rfl (by kernel_rfl)) rfl ?_
  exact ⟨_, _, by first | rfl | (simp [errW_none, errW_some] <;> rfl) | (simp [*, errW_none, errW_some] <;> rfl), by first | exact Kd.R_nil _ _ _ _ _ | exact Kd.N_nil _ _ _ _ _ | exact Kd.V_nil _ _ _ _ _ | exact Kd.Q_nil _ _ _ _ _ | exact Kd.S_nil _ _ _ _ _, by first | exact Kd.R_nil _ _ _ _ _ | exact Kd.N_nil _ _ _ _ _ | exact Kd.V_nil _ _ _ _ _ | exact Kd.Q_nil _ _ _ _ _ | exact Kd.S_nil _ _ _ _ _, by repeat (first | (with_reducible first | exact HB.out | apply below_alloc | apply pw_below_drewN | apply below_drew1 | refine below_set ?_ ap.out | refine below_set ?_ ar.out) | exact HB.out)⟩
 ·
  replace c6 := Bool.eq_false_iff.mpr c6
  subst c6
  have H1 : ((batonref20_May.f k ac ad ae af ag ah ai aj ak).bind fun az => (if az = true then ((batonref20_Live.f ac ad ae af ag ah ai aj ak).bind fun au => (if au = true then (batonref20_Renew.j0 k a1 a2 a3 (decide (a3 ≤ ae)) ac ad ae af ag ah ai aj ak) else (batonref20_Renew.j0 k a1 a2 a3 true ac ad ae af ag ah ai aj ak))) else (some (([] : List (S73)), ([] : List (S85)), 4)))) = some (r1, r2, r3) := by rw [if_neg (show ¬ (false = true) by decide)] at H; exact H
  clear H
  have H := H1
  clear H1
  replace H := Option.bind_eq_some_iff.mp H
  obtain ⟨az, A110, H⟩ := H
  replace H : (if az = true then ((batonref20_Live.f ac ad ae af ag ah ai aj ak).bind fun au => (if au = true then (batonref20_Renew.j0 k a1 a2 a3 (decide (a3 ≤ ae)) ac ad ae af ag ah ai aj ak) else (batonref20_Renew.j0 k a1 a2 a3 true ac ad ae af ag ah ai aj ak))) else (some (([] : List (S73)), ([] : List (S85)), 4))) = some (r1, r2, r3) := H
  have A11 := Aside0.mk A110
  clear A110
  by_cases c12 : az = true
  ·
   subst c12
   have H1 : ((batonref20_Live.f ac ad ae af ag ah ai aj ak).bind fun au => (if au = true then (batonref20_Renew.j0 k a1 a2 a3 (decide (a3 ≤ ae)) ac ad ae af ag ah ai aj ak) else (batonref20_Renew.j0 k a1 a2 a3 true ac ad ae af ag ah ai aj ak))) = some (r1, r2, r3) := by rw [if_pos rfl] at H; exact H
   clear H
   have H := H1
   clear H1
   have aJ := Aside0.mk H
   clear H
   go_enter Try.func33, Try.ntmps33
   go_upto_region 5 with (first | ((with_reducible refine gate_dst (N := 4) rfl ?_); refine box_event ?hg (N := 4) ?hd (cs := #[.string ac, .int .i64 ad, .int .i64 ae, .bool af, .bool ag, .int .i64 ah, .int .i64 ai, .int .i64 aj, .int .i64 ak]) (t := 27) ?hr ?_; (case hd => rfl); (case hg => rfl); (case hr => first | (go_simp; done) | (go_simp; rfl)); intro ab hg w14 hbox hb; have n0_ := Aside0.mk (below_step (by repeat (first | (with_reducible first | exact HB.out | apply below_alloc | apply pw_below_drewN | apply below_drew1) | exact HB.out)) hb); have n1_ := Aside0.mk (hbox); have n2_ := Aside0.mk ((by rw [hg]; exact (below_size (by repeat (first | (with_reducible first | exact HB.out | apply below_alloc | apply pw_below_drewN | apply below_drew1) | exact HB.out))) : w.heap.size ≤ ab)); have n3_ := Aside0.mk ((by rw [hg]; exact (below_size (by repeat (first | (with_reducible first | exact HB.out | apply below_alloc | apply pw_below_drewN | apply below_drew1) | exact HB.out))) : w.heap.size ≤ ab)); clear HB; have HB := n0_; have aa := n1_; have GW163 := n2_; have ap := n3_; clear n0_ n1_ n2_ n3_; clear hb hbox hg) | ((with_reducible refine gate_dst (N := 8) rfl ?_); refine box_event ?hg (N := 8) ?hd (cs := #[.slice none 0 0, .slice none 0 0]) (t := 34) ?hr ?_; (case hd => rfl); (case hg => rfl); (case hr => first | (go_simp; done) | (go_simp; rfl)); intro al hg w15 hbox hb; have n0_ := Aside0.mk (blk_below (g := ab) (o := .cells #[.string ac, .int .i64 ad, .int .i64 ae, .bool af, .bool ag, .int .i64 ah, .int .i64 ai, .int .i64 aj, .int .i64 ak] 27 (0, 0)) (by (with_reducible repeat (first | refine blk_drewN ?_ _ | refine blk_drew ?_ | refine blk_alloc ?_ _)); exact aa.out) hb); have n1_ := Aside0.mk (below_step (by repeat (first | (with_reducible first | exact HB.out | apply below_alloc | apply pw_below_drewN | apply below_drew1 | refine below_set ?_ ap.out) | exact HB.out)) hb); have n2_ := Aside0.mk (hbox); have n3_ := Aside0.mk ((by rw [hg]; exact (below_size (by repeat (first | (with_reducible first | exact HB.out | apply below_alloc | apply pw_below_drewN | apply below_drew1 | refine below_set ?_ ap.out) | exact HB.out))) : w.heap.size ≤ al)); have n4_ := Aside0.mk ((by rw [hg]; exact (below_size (by repeat (first | (with_reducible first | exact HB.out | apply below_alloc | apply pw_below_drewN | apply below_drew1 | refine below_set ?_ ap.out) | exact HB.out))) : w.heap.size ≤ al)); have n5_ := Aside0.mk ((by rw [hg]; exact Nat.ne_of_lt (blk_lt (g := ab) (o := .cells #[.string ac, .int .i64 ad, .int .i64 ae, .bool af, .bool ag, .int .i64 ah, .int .i64 ai, .int .i64 aj, .int .i64 ak] 27 (0, 0)) (by (with_reducible repeat (first | refine blk_drewN ?_ _ | refine blk_drew ?_ | refine blk_alloc ?_ _)); exact aa.out)) : ab ≠ al)); have n6_ := Aside0.mk ((by rw [hg]; exact Nat.ne_of_gt (blk_lt (g := ab) (o := .cells #[.string ac, .int .i64 ad, .int .i64 ae, .bool af, .bool ag, .int .i64 ah, .int .i64 ai, .int .i64 aj, .int .i64 ak] 27 (0, 0)) (by (with_reducible repeat (first | refine blk_drewN ?_ _ | refine blk_drew ?_ | refine blk_alloc ?_ _)); exact aa.out)) : al ≠ ab)); clear aa; clear HB; have aa := n0_; have HB := n1_; have am := n2_; have GW164 := n3_; have ar := n4_; have aq := n5_; have ax := n6_; clear n0_ n1_ n2_ n3_ n4_ n5_ n6_; clear hb hbox hg) | ((with_reducible refine gate_callee (f := 109) rfl ?_); refine goesL_ (some 14) rfl rfl Try.func109 (by kernel_rfl) rfl #[.string a1, .string a2, .int .i64 a3] rfl (by (try simp only [List.map_toArray, List.map_cons, List.map_nil]); first | done | rfl | (simp only [List.length_drop, List.length_take]; rfl)) ?_; (with_reducible refine (batonref20_wrong.calls a1 a2 a3 false _ A5.out).mono ?_); rintro e w' ⟨rfl, ⟨nd, rfl⟩⟩; refine ⟨_, rfl, ?_⟩; have ce := aq.out; have cf := ax.out; have aX : w15.cell? ⟨ab, 0, none⟩ = some (.string ac) := (blk_cell aa.out 0).trans rfl; have aY : w15.cell? ⟨ab, 1, none⟩ = some (.int .i64 ad) := (blk_cell aa.out 1).trans rfl; have aZ : w15.cell? ⟨ab, 2, none⟩ = some (.int .i64 ae) := (blk_cell aa.out 2).trans rfl; have a0 : w15.cell? ⟨ab, 3, none⟩ = some (.bool af) := (blk_cell aa.out 3).trans rfl; have a4 : w15.cell? ⟨ab, 4, none⟩ = some (.bool ag) := (blk_cell aa.out 4).trans rfl; have a5 : w15.cell? ⟨ab, 5, none⟩ = some (.int .i64 ah) := (blk_cell aa.out 5).trans rfl; have a6 : w15.cell? ⟨ab, 6, none⟩ = some (.int .i64 ai) := (blk_cell aa.out 6).trans rfl; have a7 : w15.cell? ⟨ab, 7, none⟩ = some (.int .i64 aj) := (blk_cell aa.out 7).trans rfl; have a8 : w15.cell? ⟨ab, 8, none⟩ = some (.int .i64 ak) := (blk_cell aa.out 8).trans rfl; have a9 := blk_frozen aa.out 0; have ba := blk_frozen aa.out 1; have bb := blk_frozen aa.out 2; have bc := blk_frozen aa.out 3; have bd := blk_frozen aa.out 4; have be := blk_frozen aa.out 5; have bf := blk_frozen aa.out 6; have bg := blk_frozen aa.out 7; have bh := blk_frozen aa.out 8) | ((with_reducible refine gate_callee (f := 29) rfl ?_); refine goesL_ (some 17) rfl rfl Try.func29 (by kernel_rfl) rfl #[.agg #[.string ac, .int .i64 ad, .int .i64 ae, .bool af, .bool ag, .int .i64 ah, .int .i64 ai, .int .i64 aj, .int .i64 ak]] rfl (by (try simp only [List.map_toArray, List.map_cons, List.map_nil]); first | done | rfl | (simp only [List.length_drop, List.length_take]; rfl)) ?_; (with_reducible refine (batonref20_May.calls k ac ad ae af ag ah ai aj ak true _ A11.out).mono ?_); rintro e w18 ⟨rfl, hb⟩; refine ⟨_, rfl, ?_⟩; have n0_ := Aside0.mk (blk_below (g := ab) (o := .cells #[.string ac, .int .i64 ad, .int .i64 ae, .bool af, .bool ag, .int .i64 ah, .int .i64 ai, .int .i64 aj, .int .i64 ak] 27 (0, 0)) (by (with_reducible repeat (first | refine blk_drewN ?_ _ | refine blk_drew ?_ | refine blk_alloc ?_ _)); exact aa.out) hb); have n1_ := Aside0.mk (blk_below (g := al) (o := .cells #[.slice none 0 0, .slice none 0 0] 34 (0, 0)) (by (with_reducible repeat (first | refine blk_drewN ?_ _ | refine blk_drew ?_ | refine blk_alloc ?_ _)); exact am.out) hb); have n2_ := Aside0.mk (below_step (by repeat (first | (with_reducible first | exact HB.out | apply below_alloc | apply pw_below_drewN | apply below_drew1 | refine below_set ?_ ap.out | refine below_set ?_ ar.out) | exact HB.out)) hb); clear aa; clear am; clear HB; have aa := n0_; have am := n1_; have HB := n2_; clear n0_ n1_ n2_; (try clear hb); (try clear hb2); (try clear hk); (try clear hi)))
   (try simp only [Act.put, List.setIfInBounds_toArray, List.set_cons_zero, List.set_cons_succ])
   go_cut [29] (fun v29 wc => ∃ (kq : Nat) (aH : Bool), v29 = .bool aH ∧ Aside0 (batonref20_Renew.j0 kq a1 a2 a3 aH ac ad ae af ag ah ai aj ak = some (r1, r2, r3)) ∧ Aside0 (kq ≤ k) ∧ Aside0 (wc.heap[ab]? = some (.cells #[.string ac, .int .i64 ad, .int .i64 ae, .bool af, .bool ag, .int .i64 ah, .int .i64 ai, .int .i64 aj, .int .i64 ak] 27 (0, 0))) ∧ Aside0 (wc.heap[al]? = some (.cells #[(.slice none 0 0), (.slice none 0 0)] 34 (0, 0))) ∧ Aside0 (Below w.heap.size w wc))
   case first =>
    have H := aJ.out
    clear aJ
    replace H := Option.bind_eq_some_iff.mp H
    obtain ⟨au, A190, H⟩ := H
    replace H : (if au = true then (batonref20_Renew.j0 k a1 a2 a3 (decide (a3 ≤ ae)) ac ad ae af ag ah ai aj ak) else (batonref20_Renew.j0 k a1 a2 a3 true ac ad ae af ag ah ai aj ak)) = some (r1, r2, r3) := H
    have A19 := Aside0.mk A190
    clear A190
    by_cases c20 : au = true
    ·
     subst c20
     have H1 : (batonref20_Renew.j0 k a1 a2 a3 (decide (a3 ≤ ae)) ac ad ae af ag ah ai aj ak) = some (r1, r2, r3) := by rw [if_pos rfl] at H; exact H
     clear H
     have H := H1
     clear H1
     have H' := Aside0.mk H
     clear H
     have cg := aq.out
     have ch := ax.out
     have bi : w18.cell? ⟨ab, 0, none⟩ = some (.string ac) := (blk_cell aa.out 0).trans rfl
     have bj : w18.cell? ⟨ab, 1, none⟩ = some (.int .i64 ad) := (blk_cell aa.out 1).trans rfl
     have bk : w18.cell? ⟨ab, 2, none⟩ = some (.int .i64 ae) := (blk_cell aa.out 2).trans rfl
     have bl : w18.cell? ⟨ab, 3, none⟩ = some (.bool af) := (blk_cell aa.out 3).trans rfl
     have bm : w18.cell? ⟨ab, 4, none⟩ = some (.bool ag) := (blk_cell aa.out 4).trans rfl
     have bn : w18.cell? ⟨ab, 5, none⟩ = some (.int .i64 ah) := (blk_cell aa.out 5).trans rfl
     have bo : w18.cell? ⟨ab, 6, none⟩ = some (.int .i64 ai) := (blk_cell aa.out 6).trans rfl
     have bp : w18.cell? ⟨ab, 7, none⟩ = some (.int .i64 aj) := (blk_cell aa.out 7).trans rfl
     have bq : w18.cell? ⟨ab, 8, none⟩ = some (.int .i64 ak) := (blk_cell aa.out 8).trans rfl
     have br := blk_frozen aa.out 0
     have bs := blk_frozen aa.out 1
     have bt := blk_frozen aa.out 2
     have bu := blk_frozen aa.out 3
     have bv := blk_frozen aa.out 4
     have bw := blk_frozen aa.out 5
     have bx := blk_frozen aa.out 6
     have bz := blk_frozen aa.out 7
     have bA := blk_frozen aa.out 8
     go_wp2_with (first | ((with_reducible refine gate_callee (f := 31) rfl ?_); refine goesL_ (some 21) rfl rfl Try.func31 (by kernel_rfl) rfl #[.agg #[.string ac, .int .i64 ad, .int .i64 ae, .bool af, .bool ag, .int .i64 ah, .int .i64 ai, .int .i64 aj, .int .i64 ak]] rfl (by (try simp only [List.map_toArray, List.map_cons, List.map_nil]); first | done | rfl | (simp only [List.length_drop, List.length_take]; rfl)) ?_; (with_reducible refine (batonref20_Live.calls ac ad ae af ag ah ai aj ak true _ A19.out).mono ?_); rintro e w23 ⟨rfl, hb⟩; refine ⟨_, rfl, ?_⟩; have n0_ := Aside0.mk (blk_below (g := ab) (o := .cells #[.string ac, .int .i64 ad, .int .i64 ae, .bool af, .bool ag, .int .i64 ah, .int .i64 ai, .int .i64 aj, .int .i64 ak] 27 (0, 0)) (by (with_reducible repeat (first | refine blk_drewN ?_ _ | refine blk_drew ?_ | refine blk_alloc ?_ _)); exact aa.out) hb); have n1_ := Aside0.mk (blk_below (g := al) (o := .cells #[.slice none 0 0, .slice none 0 0] 34 (0, 0)) (by (with_reducible repeat (first | refine blk_drewN ?_ _ | refine blk_drew ?_ | refine blk_alloc ?_ _)); exact am.out) hb); have n2_ := Aside0.mk (below_step (by repeat (first | (with_reducible first | exact HB.out | apply below_alloc | apply pw_below_drewN | apply below_drew1 | refine below_set ?_ ap.out | refine below_set ?_ ar.out) | exact HB.out)) hb); clear aa; clear am; clear HB; have aa := n0_; have am := n1_; have HB := n2_; clear n0_ n1_ n2_; (try clear hb); (try clear hb2); (try clear hk); (try clear hi); have bB : w23.cell? ⟨ab, 0, none⟩ = some (.string ac) := (blk_cell aa.out 0).trans rfl; have bC : w23.cell? ⟨ab, 1, none⟩ = some (.int .i64 ad) := (blk_cell aa.out 1).trans rfl; have bD : w23.cell? ⟨ab, 2, none⟩ = some (.int .i64 ae) := (blk_cell aa.out 2).trans rfl; have bE : w23.cell? ⟨ab, 3, none⟩ = some (.bool af) := (blk_cell aa.out 3).trans rfl; have bF : w23.cell? ⟨ab, 4, none⟩ = some (.bool ag) := (blk_cell aa.out 4).trans rfl; have bG : w23.cell? ⟨ab, 5, none⟩ = some (.int .i64 ah) := (blk_cell aa.out 5).trans rfl; have bH : w23.cell? ⟨ab, 6, none⟩ = some (.int .i64 ai) := (blk_cell aa.out 6).trans rfl; have bI : w23.cell? ⟨ab, 7, none⟩ = some (.int .i64 aj) := (blk_cell aa.out 7).trans rfl; have bJ : w23.cell? ⟨ab, 8, none⟩ = some (.int .i64 ak) := (blk_cell aa.out 8).trans rfl; have bK := blk_frozen aa.out 0; have bL := blk_frozen aa.out 1; have bM := blk_frozen aa.out 2; have bN := blk_frozen aa.out 3; have bO := blk_frozen aa.out 4; have bP := blk_frozen aa.out 5; have bQ := blk_frozen aa.out 6; have bR := blk_frozen aa.out 7; have bS := blk_frozen aa.out 8))
     go_meet
     case rel => exact ⟨_, (decide (a3 ≤ ae)), (by first | rfl | (simp; done) | (simp [*]; done)), H', ⟨by first | omega | exact Nat.le_refl _⟩, ⟨by (with_reducible repeat (first | refine blk_drewN ?_ _ | refine blk_drew ?_ | refine blk_alloc ?_ _)); exact aa.out⟩, ⟨by (with_reducible repeat (first | refine blk_drewN ?_ _ | refine blk_drew ?_ | refine blk_alloc ?_ _)); exact am.out⟩, ⟨by repeat (first | (with_reducible first | exact HB.out | apply below_alloc | apply pw_below_drewN | apply below_drew1 | refine below_set ?_ ap.out | refine below_set ?_ ar.out) | exact HB.out)⟩⟩
    ·
     replace c20 := Bool.eq_false_iff.mpr c20
     subst c20
     have H1 : (batonref20_Renew.j0 k a1 a2 a3 true ac ad ae af ag ah ai aj ak) = some (r1, r2, r3) := by rw [if_neg (show ¬ (false = true) by decide)] at H; exact H
     clear H
     have H := H1
     clear H1
     have H' := Aside0.mk H
     clear H
     have ci := aq.out
     have cj := ax.out
     have bT : w18.cell? ⟨ab, 0, none⟩ = some (.string ac) := (blk_cell aa.out 0).trans rfl
     have bU : w18.cell? ⟨ab, 1, none⟩ = some (.int .i64 ad) := (blk_cell aa.out 1).trans rfl
     have bV : w18.cell? ⟨ab, 2, none⟩ = some (.int .i64 ae) := (blk_cell aa.out 2).trans rfl
     have bW : w18.cell? ⟨ab, 3, none⟩ = some (.bool af) := (blk_cell aa.out 3).trans rfl
     have bX : w18.cell? ⟨ab, 4, none⟩ = some (.bool ag) := (blk_cell aa.out 4).trans rfl
     have bY : w18.cell? ⟨ab, 5, none⟩ = some (.int .i64 ah) := (blk_cell aa.out 5).trans rfl
     have bZ : w18.cell? ⟨ab, 6, none⟩ = some (.int .i64 ai) := (blk_cell aa.out 6).trans rfl
     have b0 : w18.cell? ⟨ab, 7, none⟩ = some (.int .i64 aj) := (blk_cell aa.out 7).trans rfl
     have b1 : w18.cell? ⟨ab, 8, none⟩ = some (.int .i64 ak) := (blk_cell aa.out 8).trans rfl
     have b2 := blk_frozen aa.out 0
     have b3 := blk_frozen aa.out 1
     have b4 := blk_frozen aa.out 2
     have b5 := blk_frozen aa.out 3
     have b6 := blk_frozen aa.out 4
     have b7 := blk_frozen aa.out 5
     have b8 := blk_frozen aa.out 6
     have b9 := blk_frozen aa.out 7
     have ca := blk_frozen aa.out 8
     go_wp2_with (first | ((with_reducible refine gate_callee (f := 31) rfl ?_); refine goesL_ (some 21) rfl rfl Try.func31 (by kernel_rfl) rfl #[.agg #[.string ac, .int .i64 ad, .int .i64 ae, .bool af, .bool ag, .int .i64 ah, .int .i64 ai, .int .i64 aj, .int .i64 ak]] rfl (by (try simp only [List.map_toArray, List.map_cons, List.map_nil]); first | done | rfl | (simp only [List.length_drop, List.length_take]; rfl)) ?_; (with_reducible refine (batonref20_Live.calls ac ad ae af ag ah ai aj ak false _ A19.out).mono ?_); rintro e w27 ⟨rfl, hb⟩; refine ⟨_, rfl, ?_⟩; have n0_ := Aside0.mk (blk_below (g := ab) (o := .cells #[.string ac, .int .i64 ad, .int .i64 ae, .bool af, .bool ag, .int .i64 ah, .int .i64 ai, .int .i64 aj, .int .i64 ak] 27 (0, 0)) (by (with_reducible repeat (first | refine blk_drewN ?_ _ | refine blk_drew ?_ | refine blk_alloc ?_ _)); exact aa.out) hb); have n1_ := Aside0.mk (blk_below (g := al) (o := .cells #[.slice none 0 0, .slice none 0 0] 34 (0, 0)) (by (with_reducible repeat (first | refine blk_drewN ?_ _ | refine blk_drew ?_ | refine blk_alloc ?_ _)); exact am.out) hb); have n2_ := Aside0.mk (below_step (by repeat (first | (with_reducible first | exact HB.out | apply below_alloc | apply pw_below_drewN | apply below_drew1 | refine below_set ?_ ap.out | refine below_set ?_ ar.out) | exact HB.out)) hb); clear aa; clear am; clear HB; have aa := n0_; have am := n1_; have HB := n2_; clear n0_ n1_ n2_; (try clear hb); (try clear hb2); (try clear hk); (try clear hi)))
     go_meet
     case rel => exact ⟨_, (true), (by first | rfl | (simp; done) | (simp [*]; done)), H', ⟨by first | omega | exact Nat.le_refl _⟩, ⟨by (with_reducible repeat (first | refine blk_drewN ?_ _ | refine blk_drew ?_ | refine blk_alloc ?_ _)); exact aa.out⟩, ⟨by (with_reducible repeat (first | refine blk_drewN ?_ _ | refine blk_drew ?_ | refine blk_alloc ?_ _)); exact am.out⟩, ⟨by repeat (first | (with_reducible first | exact HB.out | apply below_alloc | apply pw_below_drewN | apply below_drew1 | refine below_set ?_ ap.out | refine below_set ?_ ar.out) | exact HB.out)⟩⟩
   case rest =>
    clear aJ
    try clear c1
    try clear c2
    try clear p2
    try clear c3
    try clear c6
    try clear c9
    try clear c10
    try clear c12
    try clear c16
    try clear c20
    try clear c21
    try clear c25
    try clear aT
    try clear aU
    try clear aX
    try clear aY
    try clear aZ
    try clear a0
    try clear a4
    try clear a5
    try clear a6
    try clear a7
    try clear a8
    try clear bi
    try clear bj
    try clear bk
    try clear bl
    try clear bm
    try clear bn
    try clear bo
    try clear bp
    try clear bq
    try clear bB
    try clear bC
    try clear bD
    try clear bE
    try clear bF
    try clear bG
    try clear bH
    try clear bI
    try clear bJ
    try clear bT
    try clear bU
    try clear bV
    try clear bW
    try clear bX
    try clear bY
    try clear bZ
    try clear b0
    try clear b1
    try clear aV
    try clear aW
    try clear a9
    try clear ba
    try clear bb
    try clear bc
    try clear bd
    try clear be
    try clear bf
    try clear bg
    try clear bh
    try clear br
    try clear bs
    try clear bt
    try clear bu
    try clear bv
    try clear bw
    try clear bx
    try clear bz
    try clear bA
    try clear bK
    try clear bL
    try clear bM
    try clear bN
    try clear bO
    try clear bP
    try clear bQ
    try clear bR
    try clear bS
    try clear b2
    try clear b3
    try clear b4
    try clear b5
    try clear b6
    try clear b7
    try clear b8
    try clear b9
    try clear ca
    obtain ⟨kq, aH, rfl, HA, HJ12, aa, am, HB⟩ := hcut
    cases kq with
    | zero => exact absurd HA.out (by simp [batonref20_Renew.j0])
    | succ kj12 =>
     have H := HA.out
     clear HA
     simp only [batonref20_Renew.j0] at H
     by_cases c28 : aH = true
     ·
      subst c28
      have H1 : (some (([] : List (S73)), ([] : List (S85)), 46)) = some (r1, r2, r3) := by rw [if_pos rfl] at H; exact H
      clear H
      have H := H1
      clear H1
      simp only [Option.some.injEq, Prod.mk.injEq] at H
      obtain ⟨rfl, rfl, rfl⟩ := H
      have ck := ax.out
      have cl := aq.out
      have cm : wc.cell? ⟨al, 0, none⟩ = some (.slice none 0 0) := (blk_cell am.out 0).trans rfl
      have cn : wc.cell? ⟨al, 1, none⟩ = some (.slice none 0 0) := (blk_cell am.out 1).trans rfl
      have co := blk_frozen am.out 0
      have cp := blk_frozen am.out 1
      go_wp2
      refine bodyPost_ret (results_ct rfl _ _ al 34 #[.slice none 0 0, .slice none 0 0] (0, 0) _ rfl (by (with_reducible repeat (first | refine blk_drewN ?_ _ | refine blk_drew ?_ | refine blk_alloc ?_ _)); refine blk_put (cs := #[.slice none 0 0, .slice none 0 0]) ?_ 1 _ rfl; (with_reducible repeat (first | refine blk_drewN ?_ _ | refine blk_drew ?_ | refine blk_alloc ?_ _)); refine blk_put (cs := #[.slice none 0 0, .slice none 0 0]) ?_ 0 _ rfl; (with_reducible repeat (first | refine blk_drewN ?_ _ | refine blk_drew ?_ | refine blk_alloc ?_ _)); exact am.out) Try.underlying34 rfl (by kernel_rfl)) rfl ?_
      exact ⟨_, _, by first | rfl | (simp [errW_none, errW_some] <;> rfl) | (simp [*, errW_none, errW_some] <;> rfl), by first | exact Kd.R_nil _ _ _ _ _ | exact Kd.N_nil _ _ _ _ _ | exact Kd.V_nil _ _ _ _ _ | exact Kd.Q_nil _ _ _ _ _ | exact Kd.S_nil _ _ _ _ _, by first | exact Kd.R_nil _ _ _ _ _ | exact Kd.N_nil _ _ _ _ _ | exact Kd.V_nil _ _ _ _ _ | exact Kd.Q_nil _ _ _ _ _ | exact Kd.S_nil _ _ _ _ _, by repeat (first | (with_reducible first | exact HB.out | apply below_alloc | apply pw_below_drewN | apply below_drew1 | refine below_set ?_ ap.out | refine below_set ?_ ar.out) | exact HB.out)⟩
     ·
      replace c28 := Bool.eq_false_iff.mpr c28
      subst c28
      have H1 : ((batonref20_conds.f ac ad ae af ag ah ai aj ak a1 a2 false).bind fun av => ((batonref20_puts.f a1 a2 ac ad a3 af).bind fun aw => (some (av, (([(⟨aw.1, aw.2.1, aw.2.2⟩ : S85)] : List (S85))), 0)))) = some (r1, r2, r3) := by rw [if_neg (show ¬ (false = true) by decide)] at H; exact H
      clear H
      have H := H1
      clear H1
      replace H := Option.bind_eq_some_iff.mp H
      obtain ⟨av, A310, H⟩ := H
      replace H : ((batonref20_puts.f a1 a2 ac ad a3 af).bind fun aw => (some (av, (([(⟨aw.1, aw.2.1, aw.2.2⟩ : S85)] : List (S85))), 0))) = some (r1, r2, r3) := H
      have A31 := Aside0.mk A310
      clear A310
      replace H := Option.bind_eq_some_iff.mp H
      obtain ⟨⟨aA, aB, aC⟩, A320, H⟩ := H
      replace H : (some (av, (([(⟨aA, aB, aC⟩ : S85)] : List (S85))), 0)) = some (r1, r2, r3) := H
      have A32 := Aside0.mk A320
      clear A320
      obtain ⟨aI, hy175⟩ : ∃ y_ : List (S85), y_ = (([(⟨aA, aB, aC⟩ : S85)] : List (S85))) := ⟨_, rfl⟩
      replace H : (some (av, aI, 0)) = some (r1, r2, r3) := by first | (rw [hy175]; with_reducible exact H) | (have H2_ := (Option.bind_some _ _).symm.trans H; rw [hy175]; with_reducible exact H2_) | (have H2_ := (Option.bind_some _ _).symm.trans H; with_reducible exact H2_) | with_reducible exact H | (rw [hy175]; exact H) | exact H
      have Ny175 := Aside0.mk hy175
      clear hy175
      simp only [Option.some.injEq, Prod.mk.injEq] at H
      obtain ⟨rfl, rfl, rfl⟩ := H
      have cq := aq.out
      have cr := ax.out
      have ct : wc.cell? ⟨ab, 0, none⟩ = some (.string ac) := (blk_cell aa.out 0).trans rfl
      have cu : wc.cell? ⟨ab, 1, none⟩ = some (.int .i64 ad) := (blk_cell aa.out 1).trans rfl
      have cv : wc.cell? ⟨ab, 2, none⟩ = some (.int .i64 ae) := (blk_cell aa.out 2).trans rfl
      have cw : wc.cell? ⟨ab, 3, none⟩ = some (.bool af) := (blk_cell aa.out 3).trans rfl
      have cx : wc.cell? ⟨ab, 4, none⟩ = some (.bool ag) := (blk_cell aa.out 4).trans rfl
      have cy : wc.cell? ⟨ab, 5, none⟩ = some (.int .i64 ah) := (blk_cell aa.out 5).trans rfl
      have cz : wc.cell? ⟨ab, 6, none⟩ = some (.int .i64 ai) := (blk_cell aa.out 6).trans rfl
      have cA : wc.cell? ⟨ab, 7, none⟩ = some (.int .i64 aj) := (blk_cell aa.out 7).trans rfl
      have cB : wc.cell? ⟨ab, 8, none⟩ = some (.int .i64 ak) := (blk_cell aa.out 8).trans rfl
      have cC := blk_frozen aa.out 0
      have cD := blk_frozen aa.out 1
      have cE := blk_frozen aa.out 2
      have cF := blk_frozen aa.out 3
      have cG := blk_frozen aa.out 4
      have cH := blk_frozen aa.out 5
      have cI := blk_frozen aa.out 6
      have cJ := blk_frozen aa.out 7
      have cK := blk_frozen aa.out 8
      try go_wp2_with (first | ((with_reducible refine gate_dst (N := 10) rfl ?_); refine box_event ?hg (N := 10) ?hd (cs := #[.string (⟨#[]⟩ : ByteArray), .int .i64 0, .int .i64 0, .bool false]) (t := 23) ?hr ?_; (case hd => rfl); (case hg => rfl); (case hr => first | (go_simp; done) | (go_simp; rfl)); intro an hg w35 hbox hb; have n0_ := Aside0.mk (blk_below (g := ab) (o := .cells #[.string ac, .int .i64 ad, .int .i64 ae, .bool af, .bool ag, .int .i64 ah, .int .i64 ai, .int .i64 aj, .int .i64 ak] 27 (0, 0)) (by (with_reducible repeat (first | refine blk_drewN ?_ _ | refine blk_drew ?_ | refine blk_alloc ?_ _)); exact aa.out) hb); have n1_ := Aside0.mk (blk_below (g := al) (o := .cells #[.slice none 0 0, .slice none 0 0] 34 (0, 0)) (by (with_reducible repeat (first | refine blk_drewN ?_ _ | refine blk_drew ?_ | refine blk_alloc ?_ _)); exact am.out) hb); have n2_ := Aside0.mk (below_step (by repeat (first | (with_reducible first | exact HB.out | apply below_alloc | apply pw_below_drewN | apply below_drew1 | refine below_set ?_ ap.out | refine below_set ?_ ar.out) | exact HB.out)) hb); have n3_ := Aside0.mk (hbox); have n4_ := Aside0.mk ((by rw [hg]; exact (below_size (by repeat (first | (with_reducible first | exact HB.out | apply below_alloc | apply pw_below_drewN | apply below_drew1 | refine below_set ?_ ap.out | refine below_set ?_ ar.out) | exact HB.out))) : w.heap.size ≤ an)); have n5_ := Aside0.mk ((by rw [hg]; exact (below_size (by repeat (first | (with_reducible first | exact HB.out | apply below_alloc | apply pw_below_drewN | apply below_drew1 | refine below_set ?_ ap.out | refine below_set ?_ ar.out) | exact HB.out))) : w.heap.size ≤ an)); have n6_ := Aside0.mk ((by rw [hg]; exact Nat.ne_of_lt (blk_lt (g := ab) (o := .cells #[.string ac, .int .i64 ad, .int .i64 ae, .bool af, .bool ag, .int .i64 ah, .int .i64 ai, .int .i64 aj, .int .i64 ak] 27 (0, 0)) (by (with_reducible repeat (first | refine blk_drewN ?_ _ | refine blk_drew ?_ | refine blk_alloc ?_ _)); exact aa.out)) : ab ≠ an)); have n7_ := Aside0.mk ((by rw [hg]; exact Nat.ne_of_gt (blk_lt (g := ab) (o := .cells #[.string ac, .int .i64 ad, .int .i64 ae, .bool af, .bool ag, .int .i64 ah, .int .i64 ai, .int .i64 aj, .int .i64 ak] 27 (0, 0)) (by (with_reducible repeat (first | refine blk_drewN ?_ _ | refine blk_drew ?_ | refine blk_alloc ?_ _)); exact aa.out)) : an ≠ ab)); have n8_ := Aside0.mk ((by rw [hg]; exact Nat.ne_of_lt (blk_lt (g := al) (o := .cells #[.slice none 0 0, .slice none 0 0] 34 (0, 0)) (by (with_reducible repeat (first | refine blk_drewN ?_ _ | refine blk_drew ?_ | refine blk_alloc ?_ _)); exact am.out)) : al ≠ an)); have n9_ := Aside0.mk ((by rw [hg]; exact Nat.ne_of_gt (blk_lt (g := al) (o := .cells #[.slice none 0 0, .slice none 0 0] 34 (0, 0)) (by (with_reducible repeat (first | refine blk_drewN ?_ _ | refine blk_drew ?_ | refine blk_alloc ?_ _)); exact am.out)) : an ≠ al)); clear aa; clear am; clear HB; have aa := n0_; have am := n1_; have HB := n2_; have ao := n3_; have GW168 := n4_; have aE := n5_; have aG := n6_; have cb := n7_; have aD := n8_; have ay := n9_; clear n0_ n1_ n2_ n3_ n4_ n5_ n6_ n7_ n8_ n9_; clear hb hbox hg; have cL := cb.out; have cM := aG.out; have cN := ay.out; have cO := aD.out; have cP : w35.cell? ⟨an, 0, none⟩ = some (.string (⟨#[]⟩ : ByteArray)) := (blk_cell ao.out 0).trans rfl; have cQ : w35.cell? ⟨an, 1, none⟩ = some (.int .i64 0) := (blk_cell ao.out 1).trans rfl; have cR : w35.cell? ⟨an, 2, none⟩ = some (.int .i64 0) := (blk_cell ao.out 2).trans rfl; have cS : w35.cell? ⟨an, 3, none⟩ = some (.bool false) := (blk_cell ao.out 3).trans rfl; have cT := blk_frozen ao.out 0; have cU := blk_frozen ao.out 1; have cV := blk_frozen ao.out 2; have cW := blk_frozen ao.out 3))
      have n0_ : Aside0 ((((((w35.setCell ⟨an, 0, none⟩ (.string ac)).setCell ⟨an, 1, none⟩ (.int .i64 ad)).setCell ⟨an, 2, none⟩ (.int .i64 ae)).setCell ⟨an, 3, none⟩ (.bool af)).setCell ⟨an, 2, none⟩ (.int .i64 a3)).heap[ab]? = some (.cells #[.string ac, .int .i64 ad, .int .i64 ae, .bool af, .bool ag, .int .i64 ah, .int .i64 ai, .int .i64 aj, .int .i64 ak] 27 (0, 0))) := ⟨by (with_reducible repeat (first | refine blk_drewN ?_ _ | refine blk_drew ?_ | refine blk_alloc ?_ _)); refine blk_far ?_ aG.out _; (with_reducible repeat (first | refine blk_drewN ?_ _ | refine blk_drew ?_ | refine blk_alloc ?_ _)); refine blk_far ?_ aG.out _; (with_reducible repeat (first | refine blk_drewN ?_ _ | refine blk_drew ?_ | refine blk_alloc ?_ _)); refine blk_far ?_ aG.out _; (with_reducible repeat (first | refine blk_drewN ?_ _ | refine blk_drew ?_ | refine blk_alloc ?_ _)); refine blk_far ?_ aG.out _; (with_reducible repeat (first | refine blk_drewN ?_ _ | refine blk_drew ?_ | refine blk_alloc ?_ _)); refine blk_far ?_ aG.out _; (with_reducible repeat (first | refine blk_drewN ?_ _ | refine blk_drew ?_ | refine blk_alloc ?_ _)); exact aa.out⟩
      have n1_ : Aside0 ((((((w35.setCell ⟨an, 0, none⟩ (.string ac)).setCell ⟨an, 1, none⟩ (.int .i64 ad)).setCell ⟨an, 2, none⟩ (.int .i64 ae)).setCell ⟨an, 3, none⟩ (.bool af)).setCell ⟨an, 2, none⟩ (.int .i64 a3)).heap[al]? = some (.cells #[.slice none 0 0, .slice none 0 0] 34 (0, 0))) := ⟨by (with_reducible repeat (first | refine blk_drewN ?_ _ | refine blk_drew ?_ | refine blk_alloc ?_ _)); refine blk_far ?_ aD.out _; (with_reducible repeat (first | refine blk_drewN ?_ _ | refine blk_drew ?_ | refine blk_alloc ?_ _)); refine blk_far ?_ aD.out _; (with_reducible repeat (first | refine blk_drewN ?_ _ | refine blk_drew ?_ | refine blk_alloc ?_ _)); refine blk_far ?_ aD.out _; (with_reducible repeat (first | refine blk_drewN ?_ _ | refine blk_drew ?_ | refine blk_alloc ?_ _)); refine blk_far ?_ aD.out _; (with_reducible repeat (first | refine blk_drewN ?_ _ | refine blk_drew ?_ | refine blk_alloc ?_ _)); refine blk_far ?_ aD.out _; (with_reducible repeat (first | refine blk_drewN ?_ _ | refine blk_drew ?_ | refine blk_alloc ?_ _)); exact am.out⟩
      have n2_ : Aside0 ((((((w35.setCell ⟨an, 0, none⟩ (.string ac)).setCell ⟨an, 1, none⟩ (.int .i64 ad)).setCell ⟨an, 2, none⟩ (.int .i64 ae)).setCell ⟨an, 3, none⟩ (.bool af)).setCell ⟨an, 2, none⟩ (.int .i64 a3)).heap[an]? = some (.cells #[.string ac, .int .i64 ad, .int .i64 a3, .bool af] 23 (0, 0))) := ⟨by (with_reducible repeat (first | refine blk_drewN ?_ _ | refine blk_drew ?_ | refine blk_alloc ?_ _)); refine blk_put (cs := #[.string ac, .int .i64 ad, .int .i64 ae, .bool af]) ?_ 2 _ rfl; (with_reducible repeat (first | refine blk_drewN ?_ _ | refine blk_drew ?_ | refine blk_alloc ?_ _)); refine blk_put (cs := #[.string ac, .int .i64 ad, .int .i64 ae, .bool false]) ?_ 3 _ rfl; (with_reducible repeat (first | refine blk_drewN ?_ _ | refine blk_drew ?_ | refine blk_alloc ?_ _)); refine blk_put (cs := #[.string ac, .int .i64 ad, .int .i64 0, .bool false]) ?_ 2 _ rfl; (with_reducible repeat (first | refine blk_drewN ?_ _ | refine blk_drew ?_ | refine blk_alloc ?_ _)); refine blk_put (cs := #[.string ac, .int .i64 0, .int .i64 0, .bool false]) ?_ 1 _ rfl; (with_reducible repeat (first | refine blk_drewN ?_ _ | refine blk_drew ?_ | refine blk_alloc ?_ _)); refine blk_put (cs := #[.string (⟨#[]⟩ : ByteArray), .int .i64 0, .int .i64 0, .bool false]) ?_ 0 _ rfl; (with_reducible repeat (first | refine blk_drewN ?_ _ | refine blk_drew ?_ | refine blk_alloc ?_ _)); exact ao.out⟩
      have n3_ : Aside0 (Below w.heap.size w (((((w35.setCell ⟨an, 0, none⟩ (.string ac)).setCell ⟨an, 1, none⟩ (.int .i64 ad)).setCell ⟨an, 2, none⟩ (.int .i64 ae)).setCell ⟨an, 3, none⟩ (.bool af)).setCell ⟨an, 2, none⟩ (.int .i64 a3))) := ⟨by repeat (first | (with_reducible first | exact HB.out | apply below_alloc | apply pw_below_drewN | apply below_drew1 | refine below_set ?_ ap.out | refine below_set ?_ ar.out | refine below_set ?_ aE.out) | exact HB.out)⟩
      (try clear aa)
      (try clear am)
      (try clear ao)
      (try clear HB)
      generalize (((((w35.setCell ⟨an, 0, none⟩ (.string ac)).setCell ⟨an, 1, none⟩ (.int .i64 ad)).setCell ⟨an, 2, none⟩ (.int .i64 ae)).setCell ⟨an, 3, none⟩ (.bool af)).setCell ⟨an, 2, none⟩ (.int .i64 a3)) = w39 at n0_ n1_ n2_ n3_ ⊢
      have aa := n0_
      have am := n1_
      have ao := n2_
      have HB := n3_
      clear n0_ n1_ n2_ n3_
      have n0_ := Aside0.mk (blk_drew aa.out)
      have n1_ := Aside0.mk (blk_drew am.out)
      have n2_ := Aside0.mk (blk_drew ao.out)
      have n3_ := Aside0.mk (below_drew1 HB.out)
      clear aa
      clear am
      clear ao
      clear HB
      have aa := n0_
      have am := n1_
      have ao := n2_
      have HB := n3_
      clear n0_ n1_ n2_ n3_
      refine start_ (n := 12) (S := fun w' => w'.cell? ⟨ab, 0, none⟩ = some (.string ac) ∧ w'.cell? ⟨ab, 1, none⟩ = some (.int .i64 ad) ∧ w'.cell? ⟨ab, 2, none⟩ = some (.int .i64 ae) ∧ w'.cell? ⟨ab, 3, none⟩ = some (.bool af) ∧ w'.cell? ⟨ab, 4, none⟩ = some (.bool ag) ∧ w'.cell? ⟨ab, 5, none⟩ = some (.int .i64 ah) ∧ w'.cell? ⟨ab, 6, none⟩ = some (.int .i64 ai) ∧ w'.cell? ⟨ab, 7, none⟩ = some (.int .i64 aj) ∧ w'.cell? ⟨ab, 8, none⟩ = some (.int .i64 ak) ∧ w'.cell? ⟨an, 0, none⟩ = some (.string ac) ∧ w'.cell? ⟨an, 1, none⟩ = some (.int .i64 ad) ∧ w'.cell? ⟨an, 2, none⟩ = some (.int .i64 a3) ∧ w'.cell? ⟨an, 3, none⟩ = some (.bool af)) (ds := []) #[false, false, false, false, false, false, false, false, false, false, false, false] (by kernel_rfl) rfl rfl ⟨(blk_cell aa.out 0).trans rfl, (blk_cell aa.out 1).trans rfl, (blk_cell aa.out 2).trans rfl, (blk_cell aa.out 3).trans rfl, (blk_cell aa.out 4).trans rfl, (blk_cell aa.out 5).trans rfl, (blk_cell aa.out 6).trans rfl, (blk_cell aa.out 7).trans rfl, (blk_cell aa.out 8).trans rfl, (blk_cell ao.out 0).trans rfl, (blk_cell ao.out 1).trans rfl, (blk_cell ao.out 2).trans rfl, (blk_cell ao.out 3).trans rfl⟩ (fun hHeld => ?_); refine with_tabW batonref20_Renew.tab9 batonref20_Renew.bits9 (fun HT_ HW_ => ?_)
      generalize w39.drew = w40 at aa am ao HB hHeld ⊢
      refine pure_ (i := 1) (N := some 36) (v := ?_) (a' := ?_) #[false, true, false, false, false, false, false, false, false, false, false, false] rfl rfl (any_of HT_.out (by kernel_rfl)) (fun _ _ _ h => h) (Or.inl ⟨by rfl, ?_⟩) ?_ ?_
      rotate_left
      ·
       intro w'
       go_simp
       with_reducible rfl
      rotate_left
      ·
       simp only [Act.put, List.setIfInBounds_toArray, List.set_cons_zero, List.set_cons_succ, i64_w, i32_w]
       rfl
      refine pure_ (i := 2) (N := some 37) (v := ?_) (a' := ?_) #[false, true, true, false, false, false, false, false, false, false, false, false] rfl rfl (any_of HT_.out (by kernel_rfl)) (fun _ _ _ h => h) (Or.inl ⟨by rfl, ?_⟩) ?_ ?_
      rotate_left
      ·
       intro w'
       go_simp
       with_reducible rfl
      rotate_left
      ·
       simp only [Act.put, List.setIfInBounds_toArray, List.set_cons_zero, List.set_cons_succ, i64_w, i32_w]
       rfl
      refine pure_ (i := 4) (N := some 39) (v := ?_) (a' := ?_) #[false, true, true, false, true, false, false, false, false, false, false, false] rfl rfl (any_of HT_.out (by kernel_rfl)) (fun _ _ _ h => h) (Or.inl ⟨by rfl, ?_⟩) ?_ ?_
      rotate_left
      ·
       intro w'
       go_simp
       with_reducible rfl
      rotate_left
      ·
       simp only [Act.put, List.setIfInBounds_toArray, List.set_cons_zero, List.set_cons_succ, i64_w, i32_w]
       rfl
      refine pure_ (i := 5) (N := some 40) (v := ?_) (a' := ?_) #[false, true, true, false, true, true, false, false, false, false, false, false] rfl rfl (any_of HT_.out (by kernel_rfl)) (fun _ _ _ h => h) (Or.inl ⟨by rfl, ?_⟩) ?_ ?_
      rotate_left
      ·
       intro w'
       go_simp
       with_reducible rfl
      rotate_left
      ·
       simp only [Act.put, List.setIfInBounds_toArray, List.set_cons_zero, List.set_cons_succ, i64_w, i32_w]
       rfl
      refine take_ (i := 0) (N := some 35) (v := ?_) (a' := ?_) #[true, true, true, false, true, true, false, false, false, false, false, false] rfl rfl (take_ofW HT_.out HW_.out (by kernel_rfl)) (fun _ _ _ h => h) (Or.inl ⟨by rfl, ?_⟩) hHeld ?_ ?_
      rotate_left
      ·
       rintro w' ⟨s0, s1, s2, s3, s4, s5, s6, s7, s8, s9, s10, s11, s12⟩
       go_simp
       with_reducible rfl
      rotate_left
      ·
       simp only [Act.put, List.setIfInBounds_toArray, List.set_cons_zero, List.set_cons_succ, i64_w, i32_w]
       rfl
      refine take_ (i := 6) (N := some 41) (v := ?_) (a' := ?_) #[true, true, true, false, true, true, true, false, false, false, false, false] rfl rfl (take_ofW HT_.out HW_.out (by kernel_rfl)) (fun _ _ _ h => h) (Or.inl ⟨by rfl, ?_⟩) hHeld ?_ ?_
      rotate_left
      ·
       rintro w' ⟨s0, s1, s2, s3, s4, s5, s6, s7, s8, s9, s10, s11, s12⟩
       go_simp
       with_reducible rfl
      rotate_left
      ·
       simp only [Act.put, List.setIfInBounds_toArray, List.set_cons_zero, List.set_cons_succ, i64_w, i32_w]
       rfl
      refine one_ (i := 3) (N := some 38) #[true, true, true, true, true, true, true, false, false, false, false, false] rfl rfl (one_of HT_.out (by kernel_rfl)) (by decide) (fun K hK => ?_)
      refine goes_ Try.func110 (by kernel_rfl) rfl #[.agg #[.string ac, .int .i64 ad, .int .i64 ae, .bool af, .bool ag, .int .i64 ah, .int .i64 ai, .int .i64 aj, .int .i64 ak], .string a1, .string a2, .bool false] (by rfl) rfl rfl (by (try simp only [List.map_toArray, List.map_cons, List.map_nil]); first | done | rfl | (simp only [List.length_drop, List.length_take]; rfl)) ?_
      with_reducible refine (batonref20_conds.calls ac ad ae af ag ah ai aj ak a1 a2 false av _ A31.out).mono ?_
      rintro e w41 ⟨v170, rfl, ho0, hb⟩
      refine ⟨_, rfl, ?_⟩
      have n0_ := Aside0.mk (Kd.R_lower ho0 (below_size (by repeat (first | (with_reducible first | exact HB.out | apply below_alloc | apply pw_below_drewN | apply below_drew1 | refine below_set ?_ ap.out | refine below_set ?_ ar.out | refine below_set ?_ aE.out) | exact HB.out))))
      have n1_ := Aside0.mk (blk_below (g := ab) (o := .cells #[.string ac, .int .i64 ad, .int .i64 ae, .bool af, .bool ag, .int .i64 ah, .int .i64 ai, .int .i64 aj, .int .i64 ak] 27 (0, 0)) (by (with_reducible repeat (first | refine blk_drewN ?_ _ | refine blk_drew ?_ | refine blk_alloc ?_ _)); exact aa.out) hb)
      have n2_ := Aside0.mk (blk_below (g := al) (o := .cells #[.slice none 0 0, .slice none 0 0] 34 (0, 0)) (by (with_reducible repeat (first | refine blk_drewN ?_ _ | refine blk_drew ?_ | refine blk_alloc ?_ _)); exact am.out) hb)
      have n3_ := Aside0.mk (blk_below (g := an) (o := .cells #[.string ac, .int .i64 ad, .int .i64 a3, .bool af] 23 (0, 0)) (by (with_reducible repeat (first | refine blk_drewN ?_ _ | refine blk_drew ?_ | refine blk_alloc ?_ _)); exact ao.out) hb)
      have n4_ := Aside0.mk (below_step (by repeat (first | (with_reducible first | exact HB.out | apply below_alloc | apply pw_below_drewN | apply below_drew1 | refine below_set ?_ ap.out | refine below_set ?_ ar.out | refine below_set ?_ aE.out) | exact HB.out)) hb)
      clear aa
      clear am
      clear ao
      clear HB
      have HO171 := n0_
      have aa := n1_
      have am := n2_
      have ao := n3_
      have HB := n4_
      clear n0_ n1_ n2_ n3_ n4_
      (try clear hb)
      (try clear hb2)
      (try clear hk)
      (try clear hi)
      (try clear ho0)
      refine hK.out _ _ ⟨(blk_cell aa.out 0).trans rfl, (blk_cell aa.out 1).trans rfl, (blk_cell aa.out 2).trans rfl, (blk_cell aa.out 3).trans rfl, (blk_cell aa.out 4).trans rfl, (blk_cell aa.out 5).trans rfl, (blk_cell aa.out 6).trans rfl, (blk_cell aa.out 7).trans rfl, (blk_cell aa.out 8).trans rfl, (blk_cell ao.out 0).trans rfl, (blk_cell ao.out 1).trans rfl, (blk_cell ao.out 2).trans rfl, (blk_cell ao.out 3).trans rfl⟩ (fun hHeld => ?_)
      clear hK K
      refine norm_ (a' := ?_) ?_ ?_
      rotate_left
      ·
       show Act.put _ (some 38) _ = _
       simp only [Act.put, List.setIfInBounds_toArray, List.set_cons_zero, List.set_cons_succ, i64_w, i32_w]
       rfl
      refine one_ (i := 7) (N := some 42) #[true, true, true, true, true, true, true, true, false, false, false, false] rfl rfl (one_of HT_.out (by kernel_rfl)) (by decide) (fun K hK => ?_)
      refine goes_ Try.func111 (by kernel_rfl) rfl #[.string a1, .string a2, .agg #[.string ac, .int .i64 ad, .int .i64 a3, .bool af]] (by rfl) rfl rfl (by (try simp only [List.map_toArray, List.map_cons, List.map_nil]); first | done | rfl | (simp only [List.length_drop, List.length_take]; rfl)) ?_
      with_reducible refine (batonref20_puts.calls a1 a2 ac ad a3 af aA aB aC _ A32.out).mono ?_
      rintro e w42 ⟨rfl, hb⟩
      refine ⟨_, rfl, ?_⟩
      have n0_ := Aside0.mk (Kd.R_below (by (with_reducible repeat (first | apply Kd.R_alloc | apply Kd.R_drewN | apply Kd.R_drew)); exact HO171.out) hb)
      have n1_ := Aside0.mk (blk_below (g := ab) (o := .cells #[.string ac, .int .i64 ad, .int .i64 ae, .bool af, .bool ag, .int .i64 ah, .int .i64 ai, .int .i64 aj, .int .i64 ak] 27 (0, 0)) (by (with_reducible repeat (first | refine blk_drewN ?_ _ | refine blk_drew ?_ | refine blk_alloc ?_ _)); exact aa.out) hb)
      have n2_ := Aside0.mk (blk_below (g := al) (o := .cells #[.slice none 0 0, .slice none 0 0] 34 (0, 0)) (by (with_reducible repeat (first | refine blk_drewN ?_ _ | refine blk_drew ?_ | refine blk_alloc ?_ _)); exact am.out) hb)
      have n3_ := Aside0.mk (blk_below (g := an) (o := .cells #[.string ac, .int .i64 ad, .int .i64 a3, .bool af] 23 (0, 0)) (by (with_reducible repeat (first | refine blk_drewN ?_ _ | refine blk_drew ?_ | refine blk_alloc ?_ _)); exact ao.out) hb)
      have n4_ := Aside0.mk (below_step (by repeat (first | (with_reducible first | exact HB.out | apply below_alloc | apply pw_below_drewN | apply below_drew1 | refine below_set ?_ ap.out | refine below_set ?_ ar.out | refine below_set ?_ aE.out) | exact HB.out)) hb)
      clear HO171
      clear aa
      clear am
      clear ao
      clear HB
      have HO171 := n0_
      have aa := n1_
      have am := n2_
      have ao := n3_
      have HB := n4_
      clear n0_ n1_ n2_ n3_ n4_
      (try clear hb)
      (try clear hb2)
      (try clear hk)
      (try clear hi)
      refine hK.out _ _ ⟨(blk_cell aa.out 0).trans rfl, (blk_cell aa.out 1).trans rfl, (blk_cell aa.out 2).trans rfl, (blk_cell aa.out 3).trans rfl, (blk_cell aa.out 4).trans rfl, (blk_cell aa.out 5).trans rfl, (blk_cell aa.out 6).trans rfl, (blk_cell aa.out 7).trans rfl, (blk_cell aa.out 8).trans rfl, (blk_cell ao.out 0).trans rfl, (blk_cell ao.out 1).trans rfl, (blk_cell ao.out 2).trans rfl, (blk_cell ao.out 3).trans rfl⟩ (fun hHeld => ?_)
      clear hK K
      refine norm_ (a' := ?_) ?_ ?_
      rotate_left
      ·
       show Act.put _ (some 42) _ = _
       simp only [Act.put, List.setIfInBounds_toArray, List.set_cons_zero, List.set_cons_succ, i64_w, i32_w]
       rfl
      refine one_ (i := 8) (N := some 43) #[true, true, true, true, true, true, true, true, true, false, false, false] rfl rfl (one_of HT_.out (by kernel_rfl)) (by decide) (fun K hK => ?_)
      refine Kd.R_lit_step k85 _ 85 ?hg (N := 43) ?hd (xs := ([(⟨aA, aB, aC⟩ : S85)] : List (S85))) (inner := [.bool aA, .string aB, .string aC]) (ok := fun _ => True) (okp := fun _ => True) ?hr ?hp (fun _ hk => hk) trivial (Below.refl _ _) (Nat.le_refl _) (by simp) ?_; (case hd => rfl); (case hg => rfl); (case hr => first | (go_simp; done) | (go_simp; rfl)); (case hp => exact (Reps.c3 (show Kd.M k85 _ _ _ (⟨aA, aB, aC⟩ : S85) [.bool aA, .string aB, .string aC] from (k85_mkM _ _ _ (⟨aA, aB, aC⟩ : S85) )) (Reps.none _ _)))
      intro v176 w43 ho44 hb hg_ hnew_
      clear hg_ hnew_
      (first | rw [← Ny175.out] at ho44 | (simp only [Int.reduceToNat] at ho44; rw [← Ny175.out] at ho44))
      have n0_ := Aside0.mk (Kd.R_below (by (with_reducible repeat (first | apply Kd.R_alloc | apply Kd.R_drewN | apply Kd.R_drew)); exact HO171.out) hb)
      have n1_ := Aside0.mk (Kd.R_lower ho44 (below_size (by repeat (first | (with_reducible first | exact HB.out | apply below_alloc | apply pw_below_drewN | apply below_drew1 | refine below_set ?_ ap.out | refine below_set ?_ ar.out | refine below_set ?_ aE.out) | exact HB.out))))
      have n2_ := Aside0.mk (blk_below (g := ab) (o := .cells #[.string ac, .int .i64 ad, .int .i64 ae, .bool af, .bool ag, .int .i64 ah, .int .i64 ai, .int .i64 aj, .int .i64 ak] 27 (0, 0)) (by (with_reducible repeat (first | refine blk_drewN ?_ _ | refine blk_drew ?_ | refine blk_alloc ?_ _)); exact aa.out) hb)
      have n3_ := Aside0.mk (blk_below (g := al) (o := .cells #[.slice none 0 0, .slice none 0 0] 34 (0, 0)) (by (with_reducible repeat (first | refine blk_drewN ?_ _ | refine blk_drew ?_ | refine blk_alloc ?_ _)); exact am.out) hb)
      have n4_ := Aside0.mk (blk_below (g := an) (o := .cells #[.string ac, .int .i64 ad, .int .i64 a3, .bool af] 23 (0, 0)) (by (with_reducible repeat (first | refine blk_drewN ?_ _ | refine blk_drew ?_ | refine blk_alloc ?_ _)); exact ao.out) hb)
      have n5_ := Aside0.mk (below_step (by repeat (first | (with_reducible first | exact HB.out | apply below_alloc | apply pw_below_drewN | apply below_drew1 | refine below_set ?_ ap.out | refine below_set ?_ ar.out | refine below_set ?_ aE.out) | exact HB.out)) hb)
      clear HO171
      clear aa
      clear am
      clear ao
      clear HB
      have HO171 := n0_
      have HO177 := n1_
      have aa := n2_
      have am := n3_
      have ao := n4_
      have HB := n5_
      clear n0_ n1_ n2_ n3_ n4_ n5_
      clear hb ho44
      obtain ⟨Ao45, co45, eo45⟩ := Kd.R_slice HO177.out
      (first | subst eo45 | (injection eo45 with f1_ f2_ f3_; have f4_ := f1_.symm; have f5_ := f3_.symm; clear f1_ f2_ f3_; subst f4_; subst f5_))
      obtain ⟨Ao46, co46, eo46⟩ := Kd.R_slice HO171.out
      (first | subst eo46 | (injection eo46 with f1_ f2_ f3_; have f4_ := f1_.symm; have f5_ := f3_.symm; clear f1_ f2_ f3_; subst f4_; subst f5_))
      refine hK.out _ _ ⟨(blk_cell aa.out 0).trans rfl, (blk_cell aa.out 1).trans rfl, (blk_cell aa.out 2).trans rfl, (blk_cell aa.out 3).trans rfl, (blk_cell aa.out 4).trans rfl, (blk_cell aa.out 5).trans rfl, (blk_cell aa.out 6).trans rfl, (blk_cell aa.out 7).trans rfl, (blk_cell aa.out 8).trans rfl, (blk_cell ao.out 0).trans rfl, (blk_cell ao.out 1).trans rfl, (blk_cell ao.out 2).trans rfl, (blk_cell ao.out 3).trans rfl⟩ (fun hHeld => ?_)
      clear hK K
      refine norm_ (a' := ?_) ?_ ?_
      rotate_left
      ·
       show Act.put _ (some 43) _ = _
       simp only [Act.put, List.setIfInBounds_toArray, List.set_cons_zero, List.set_cons_succ, i64_w, i32_w]
       rfl
      refine pure_ (i := 9) (N := some 44) (v := ?_) (a' := ?_) #[true, true, true, true, true, true, true, true, true, true, false, false] rfl rfl (any_of HT_.out (by kernel_rfl)) (fun _ _ _ h => h) (Or.inl ⟨by rfl, ?_⟩) ?_ ?_
      rotate_left
      ·
       intro w'
       go_simp
       with_reducible rfl
      rotate_left
      ·
       simp only [Act.put, List.setIfInBounds_toArray, List.set_cons_zero, List.set_cons_succ, i64_w, i32_w]
       rfl
      refine one_ (i := 10) (N := none) #[true, true, true, true, true, true, true, true, true, true, true, false] rfl rfl (one_of HT_.out (by kernel_rfl)) (by decide) (fun K hK => ?_)
      have hs47 : w43.cell? ⟨al, 0, none⟩ = some (.slice none 0 0) := (blk_cell am.out 0).trans rfl
      have hfs47 := blk_frozen am.out 0
      have hns47_0 := aq.out
      have hns47_2 := ay.out
      have hms47_0 := ax.out
      have hms47_2 := aD.out
      have hs48 : w43.cell? ⟨al, 1, none⟩ = some (.slice none 0 0) := (blk_cell am.out 1).trans rfl
      have hfs48 := blk_frozen am.out 1
      have hns48_0 := aq.out
      have hns48_2 := ay.out
      have hms48_0 := ax.out
      have hms48_2 := aD.out
      refine skip_ (w1 := ?_) (by rfl) rfl ?_ ?_
      rotate_left
      ·
       go_simp
       rfl
      refine hK.out _ _ ⟨((cell_far (p := ⟨al, _, none⟩) aq.out _).trans (((cell_far (p := ⟨al, _, none⟩) aq.out _).trans (hHeld.1)))), ((cell_far (p := ⟨al, _, none⟩) aq.out _).trans (((cell_far (p := ⟨al, _, none⟩) aq.out _).trans (hHeld.2.1)))), ((cell_far (p := ⟨al, _, none⟩) aq.out _).trans (((cell_far (p := ⟨al, _, none⟩) aq.out _).trans (hHeld.2.2.1)))), ((cell_far (p := ⟨al, _, none⟩) aq.out _).trans (((cell_far (p := ⟨al, _, none⟩) aq.out _).trans (hHeld.2.2.2.1)))), ((cell_far (p := ⟨al, _, none⟩) aq.out _).trans (((cell_far (p := ⟨al, _, none⟩) aq.out _).trans (hHeld.2.2.2.2.1)))), ((cell_far (p := ⟨al, _, none⟩) aq.out _).trans (((cell_far (p := ⟨al, _, none⟩) aq.out _).trans (hHeld.2.2.2.2.2.1)))), ((cell_far (p := ⟨al, _, none⟩) aq.out _).trans (((cell_far (p := ⟨al, _, none⟩) aq.out _).trans (hHeld.2.2.2.2.2.2.1)))), ((cell_far (p := ⟨al, _, none⟩) aq.out _).trans (((cell_far (p := ⟨al, _, none⟩) aq.out _).trans (hHeld.2.2.2.2.2.2.2.1)))), ((cell_far (p := ⟨al, _, none⟩) aq.out _).trans (((cell_far (p := ⟨al, _, none⟩) aq.out _).trans (hHeld.2.2.2.2.2.2.2.2.1)))), ((cell_far (p := ⟨al, _, none⟩) ay.out _).trans (((cell_far (p := ⟨al, _, none⟩) ay.out _).trans (hHeld.2.2.2.2.2.2.2.2.2.1)))), ((cell_far (p := ⟨al, _, none⟩) ay.out _).trans (((cell_far (p := ⟨al, _, none⟩) ay.out _).trans (hHeld.2.2.2.2.2.2.2.2.2.2.1)))), ((cell_far (p := ⟨al, _, none⟩) ay.out _).trans (((cell_far (p := ⟨al, _, none⟩) ay.out _).trans (hHeld.2.2.2.2.2.2.2.2.2.2.2.1)))), ((cell_far (p := ⟨al, _, none⟩) ay.out _).trans (((cell_far (p := ⟨al, _, none⟩) ay.out _).trans (hHeld.2.2.2.2.2.2.2.2.2.2.2.2))))⟩ (fun hHeld => ?_)
      clear hK K
      refine pure_ (i := 11) (N := some 9) (v := ?_) (a' := ?_) #[true, true, true, true, true, true, true, true, true, true, true, true] rfl rfl (any_of HT_.out (by kernel_rfl)) (fun _ _ _ h => h) (Or.inl ⟨by rfl, ?_⟩) ?_ ?_
      rotate_left
      ·
       intro w'
       go_simp
       with_reducible rfl
      rotate_left
      ·
       simp only [Act.put, List.setIfInBounds_toArray, List.set_cons_zero, List.set_cons_succ, i64_w, i32_w]
       rfl
      refine done_ (done_of HT_.out (by kernel_rfl)) ?_
      try go_wp2
      refine bodyPost_ret (results_ct rfl _ _ al 34 #[.slice Ao46 av.length co46, .slice Ao45 aI.length co45] (0, 0) _ rfl (by (with_reducible repeat (first | refine blk_drewN ?_ _ | refine blk_drew ?_ | refine blk_alloc ?_ _)); refine blk_put (cs := #[.slice Ao46 av.length co46, .slice none 0 0]) ?_ 1 _ rfl; (with_reducible repeat (first | refine blk_drewN ?_ _ | refine blk_drew ?_ | refine blk_alloc ?_ _)); refine blk_put (cs := #[.slice none 0 0, .slice none 0 0]) ?_ 0 _ rfl; (with_reducible repeat (first | refine blk_drewN ?_ _ | refine blk_drew ?_ | refine blk_alloc ?_ _)); exact am.out) Try.underlying34 rfl (by kernel_rfl)) rfl ?_
      exact ⟨_, _, by first | rfl | (simp [errW_none, errW_some] <;> rfl) | (simp [*, errW_none, errW_some] <;> rfl), by (with_reducible repeat (first | apply Kd.R_alloc | apply Kd.R_drewN | apply Kd.R_drew)); exact Kd.R_mono (Kd.R_far (p := ⟨al, 1, none⟩) (Kd.R_far (p := ⟨al, 0, none⟩) (Kd.R_types HO171.out am.out (by decide)) (fun _ hk => hk.2) (.slice Ao46 av.length co46)) (fun _ hk => hk.2) (.slice Ao45 aI.length co45)) (fun _ hk => trivial), by (with_reducible repeat (first | apply Kd.R_alloc | apply Kd.R_drewN | apply Kd.R_drew)); exact Kd.R_mono (Kd.R_far (p := ⟨al, 1, none⟩) (Kd.R_far (p := ⟨al, 0, none⟩) (Kd.R_types HO177.out am.out (by decide)) (fun _ hk => hk.2) (.slice Ao46 av.length co46)) (fun _ hk => hk.2) (.slice Ao45 aI.length co45)) (fun _ hk => trivial), by repeat (first | (with_reducible first | exact HB.out | apply below_alloc | apply pw_below_drewN | apply below_drew1 | refine below_set ?_ ap.out | refine below_set ?_ ar.out | refine below_set ?_ aE.out) | exact HB.out)⟩
  ·
   replace c12 := Bool.eq_false_iff.mpr c12
   subst c12
   have H1 : (some (([] : List (S73)), ([] : List (S85)), 4)) = some (r1, r2, r3) := by rw [if_neg (show ¬ (false = true) by decide)] at H; exact H
   clear H
   have H := H1
   clear H1
   simp only [Option.some.injEq, Prod.mk.injEq] at H
   obtain ⟨rfl, rfl, rfl⟩ := H
   go_enter Try.func33, Try.ntmps33
   go_wp2_with (first | ((with_reducible refine gate_dst (N := 4) rfl ?_); refine box_event ?hg (N := 4) ?hd (cs := #[.string ac, .int .i64 ad, .int .i64 ae, .bool af, .bool ag, .int .i64 ah, .int .i64 ai, .int .i64 aj, .int .i64 ak]) (t := 27) ?hr ?_; (case hd => rfl); (case hg => rfl); (case hr => first | (go_simp; done) | (go_simp; rfl)); intro ab hg w49 hbox hb; have n0_ := Aside0.mk (below_step (by repeat (first | (with_reducible first | exact HB.out | apply below_alloc | apply pw_below_drewN | apply below_drew1) | exact HB.out)) hb); have n1_ := Aside0.mk (hbox); have n2_ := Aside0.mk ((by rw [hg]; exact (below_size (by repeat (first | (with_reducible first | exact HB.out | apply below_alloc | apply pw_below_drewN | apply below_drew1) | exact HB.out))) : w.heap.size ≤ ab)); have n3_ := Aside0.mk ((by rw [hg]; exact (below_size (by repeat (first | (with_reducible first | exact HB.out | apply below_alloc | apply pw_below_drewN | apply below_drew1) | exact HB.out))) : w.heap.size ≤ ab)); clear HB; have HB := n0_; have aa := n1_; have GW163 := n2_; have ap := n3_; clear n0_ n1_ n2_ n3_; clear hb hbox hg) | ((with_reducible refine gate_dst (N := 8) rfl ?_); refine box_event ?hg (N := 8) ?hd (cs := #[.slice none 0 0, .slice none 0 0]) (t := 34) ?hr ?_; (case hd => rfl); (case hg => rfl); (case hr => first | (go_simp; done) | (go_simp; rfl)); intro al hg w50 hbox hb; have n0_ := Aside0.mk (blk_below (g := ab) (o := .cells #[.string ac, .int .i64 ad, .int .i64 ae, .bool af, .bool ag, .int .i64 ah, .int .i64 ai, .int .i64 aj, .int .i64 ak] 27 (0, 0)) (by (with_reducible repeat (first | refine blk_drewN ?_ _ | refine blk_drew ?_ | refine blk_alloc ?_ _)); exact aa.out) hb); have n1_ := Aside0.mk (below_step (by repeat (first | (with_reducible first | exact HB.out | apply below_alloc | apply pw_below_drewN | apply below_drew1 | refine below_set ?_ ap.out) | exact HB.out)) hb); have n2_ := Aside0.mk (hbox); have n3_ := Aside0.mk ((by rw [hg]; exact (below_size (by repeat (first | (with_reducible first | exact HB.out | apply below_alloc | apply pw_below_drewN | apply below_drew1 | refine below_set ?_ ap.out) | exact HB.out))) : w.heap.size ≤ al)); have n4_ := Aside0.mk ((by rw [hg]; exact (below_size (by repeat (first | (with_reducible first | exact HB.out | apply below_alloc | apply pw_below_drewN | apply below_drew1 | refine below_set ?_ ap.out) | exact HB.out))) : w.heap.size ≤ al)); have n5_ := Aside0.mk ((by rw [hg]; exact Nat.ne_of_lt (blk_lt (g := ab) (o := .cells #[.string ac, .int .i64 ad, .int .i64 ae, .bool af, .bool ag, .int .i64 ah, .int .i64 ai, .int .i64 aj, .int .i64 ak] 27 (0, 0)) (by (with_reducible repeat (first | refine blk_drewN ?_ _ | refine blk_drew ?_ | refine blk_alloc ?_ _)); exact aa.out)) : ab ≠ al)); have n6_ := Aside0.mk ((by rw [hg]; exact Nat.ne_of_gt (blk_lt (g := ab) (o := .cells #[.string ac, .int .i64 ad, .int .i64 ae, .bool af, .bool ag, .int .i64 ah, .int .i64 ai, .int .i64 aj, .int .i64 ak] 27 (0, 0)) (by (with_reducible repeat (first | refine blk_drewN ?_ _ | refine blk_drew ?_ | refine blk_alloc ?_ _)); exact aa.out)) : al ≠ ab)); clear aa; clear HB; have aa := n0_; have HB := n1_; have am := n2_; have GW164 := n3_; have ar := n4_; have aq := n5_; have ax := n6_; clear n0_ n1_ n2_ n3_ n4_ n5_ n6_; clear hb hbox hg) | ((with_reducible refine gate_callee (f := 109) rfl ?_); refine goesL_ (some 14) rfl rfl Try.func109 (by kernel_rfl) rfl #[.string a1, .string a2, .int .i64 a3] rfl (by (try simp only [List.map_toArray, List.map_cons, List.map_nil]); first | done | rfl | (simp only [List.length_drop, List.length_take]; rfl)) ?_; (with_reducible refine (batonref20_wrong.calls a1 a2 a3 false _ A5.out).mono ?_); rintro e w' ⟨rfl, ⟨nd, rfl⟩⟩; refine ⟨_, rfl, ?_⟩; (try (rw [drewN_self w50]; generalize hq_ : World.drewN w50 _ = w50; have n0_ : Aside0 (w50.heap[ab]? = some (.cells #[.string ac, .int .i64 ad, .int .i64 ae, .bool af, .bool ag, .int .i64 ah, .int .i64 ai, .int .i64 aj, .int .i64 ak] 27 (0, 0))) := ⟨by rw [← hq_]; exact (by (with_reducible repeat (first | refine blk_drewN ?_ _ | refine blk_drew ?_ | refine blk_alloc ?_ _)); exact aa.out)⟩; have n1_ : Aside0 (w50.heap[al]? = some (.cells #[.slice none 0 0, .slice none 0 0] 34 (0, 0))) := ⟨by rw [← hq_]; exact (by (with_reducible repeat (first | refine blk_drewN ?_ _ | refine blk_drew ?_ | refine blk_alloc ?_ _)); exact am.out)⟩; have n2_ : Aside0 (Below w.heap.size w w50) := ⟨by rw [← hq_]; exact (by repeat (first | (with_reducible first | exact HB.out | apply below_alloc | apply pw_below_drewN | apply below_drew1 | refine below_set ?_ ap.out | refine below_set ?_ ar.out) | exact HB.out))⟩; clear aa am HB hq_; have aa := n0_; have am := n1_; have HB := n2_; clear n0_ n1_ n2_)); have cX := aq.out; have cY := ax.out; have cZ : w50.cell? ⟨ab, 0, none⟩ = some (.string ac) := (blk_cell aa.out 0).trans rfl; have c0 : w50.cell? ⟨ab, 1, none⟩ = some (.int .i64 ad) := (blk_cell aa.out 1).trans rfl; have c4 : w50.cell? ⟨ab, 2, none⟩ = some (.int .i64 ae) := (blk_cell aa.out 2).trans rfl; have c5 : w50.cell? ⟨ab, 3, none⟩ = some (.bool af) := (blk_cell aa.out 3).trans rfl; have c7 : w50.cell? ⟨ab, 4, none⟩ = some (.bool ag) := (blk_cell aa.out 4).trans rfl; have c8 : w50.cell? ⟨ab, 5, none⟩ = some (.int .i64 ah) := (blk_cell aa.out 5).trans rfl; have da : w50.cell? ⟨ab, 6, none⟩ = some (.int .i64 ai) := (blk_cell aa.out 6).trans rfl; have db : w50.cell? ⟨ab, 7, none⟩ = some (.int .i64 aj) := (blk_cell aa.out 7).trans rfl; have dc : w50.cell? ⟨ab, 8, none⟩ = some (.int .i64 ak) := (blk_cell aa.out 8).trans rfl; have dd := blk_frozen aa.out 0; have de := blk_frozen aa.out 1; have df := blk_frozen aa.out 2; have dg := blk_frozen aa.out 3; have dh := blk_frozen aa.out 4; have di := blk_frozen aa.out 5; have dj := blk_frozen aa.out 6; have dk := blk_frozen aa.out 7; have dl := blk_frozen aa.out 8) | ((with_reducible refine gate_callee (f := 29) rfl ?_); refine goesL_ (some 17) rfl rfl Try.func29 (by kernel_rfl) rfl #[.agg #[.string ac, .int .i64 ad, .int .i64 ae, .bool af, .bool ag, .int .i64 ah, .int .i64 ai, .int .i64 aj, .int .i64 ak]] rfl (by (try simp only [List.map_toArray, List.map_cons, List.map_nil]); first | done | rfl | (simp only [List.length_drop, List.length_take]; rfl)) ?_; (with_reducible refine (batonref20_May.calls k ac ad ae af ag ah ai aj ak false _ A11.out).mono ?_); rintro e w53 ⟨rfl, hb⟩; refine ⟨_, rfl, ?_⟩; have n0_ := Aside0.mk (blk_below (g := ab) (o := .cells #[.string ac, .int .i64 ad, .int .i64 ae, .bool af, .bool ag, .int .i64 ah, .int .i64 ai, .int .i64 aj, .int .i64 ak] 27 (0, 0)) (by (with_reducible repeat (first | refine blk_drewN ?_ _ | refine blk_drew ?_ | refine blk_alloc ?_ _)); exact aa.out) hb); have n1_ := Aside0.mk (blk_below (g := al) (o := .cells #[.slice none 0 0, .slice none 0 0] 34 (0, 0)) (by (with_reducible repeat (first | refine blk_drewN ?_ _ | refine blk_drew ?_ | refine blk_alloc ?_ _)); exact am.out) hb); have n2_ := Aside0.mk (below_step (by repeat (first | (with_reducible first | exact HB.out | apply below_alloc | apply pw_below_drewN | apply below_drew1 | refine below_set ?_ ap.out | refine below_set ?_ ar.out) | exact HB.out)) hb); clear aa; clear am; clear HB; have aa := n0_; have am := n1_; have HB := n2_; clear n0_ n1_ n2_; (try clear hb); (try clear hb2); (try clear hk); (try clear hi); have dm : w53.cell? ⟨al, 0, none⟩ = some (.slice none 0 0) := (blk_cell am.out 0).trans rfl; have dn : w53.cell? ⟨al, 1, none⟩ = some (.slice none 0 0) := (blk_cell am.out 1).trans rfl; have dp := blk_frozen am.out 0; have dq := blk_frozen am.out 1))
   refine bodyPost_ret (results_ct rfl _ _ al 34 #[.slice none 0 0, .slice none 0 0] (0, 0) _ rfl (by (with_reducible repeat (first | refine blk_drewN ?_ _ | refine blk_drew ?_ | refine blk_alloc ?_ _)); refine blk_put (cs := #[.slice none 0 0, .slice none 0 0]) ?_ 1 _ rfl; (with_reducible repeat (first | refine blk_drewN ?_ _ | refine blk_drew ?_ | refine blk_alloc ?_ _)); refine blk_put (cs := #[.slice none 0 0, .slice none 0 0]) ?_ 0 _ rfl; (with_reducible repeat (first | refine blk_drewN ?_ _ | refine blk_drew ?_ | refine blk_alloc ?_ _)); exact am.out) Try.underlying34 rfl (by kernel_rfl)) rfl ?_
   exact ⟨_, _, by first | rfl | (simp [errW_none, errW_some] <;> rfl) | (simp [*, errW_none, errW_some] <;> rfl), by first | exact Kd.R_nil _ _ _ _ _ | exact Kd.N_nil _ _ _ _ _ | exact Kd.V_nil _ _ _ _ _ | exact Kd.Q_nil _ _ _ _ _ | exact Kd.S_nil _ _ _ _ _, by first | exact Kd.R_nil _ _ _ _ _ | exact Kd.N_nil _ _ _ _ _ | exact Kd.V_nil _ _ _ _ _ | exact Kd.Q_nil _ _ _ _ _ | exact Kd.S_nil _ _ _ _ _, by repeat (first | (with_reducible first | exact HB.out | apply below_alloc | apply pw_below_drewN | apply below_drew1 | refine below_set ?_ ap.out | refine below_set ?_ ar.out) | exact HB.out)⟩
end Go.Proofs.Ytobanhbjkomieaa.PEl
