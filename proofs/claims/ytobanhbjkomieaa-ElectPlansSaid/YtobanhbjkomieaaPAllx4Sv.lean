import Derived.Test.YtobanhbjkomieaaPAllx0Sv
import Derived.Test.YtobanhbjkomieaaPAllx1Sv
import Derived.Test.YtobanhbjkomieaaPAllx2Sv
import Derived.Test.YtobanhbjkomieaaPAllx3Sv
namespace Go.Proofs.Ytobanhbjkomieaa.PAll
open Go.RowKit Go.Proofs.YtobanhbjkomieaaW.PrintWords Go.Proofs.YtobanhbjkomieaaW.PrintLast Go.Proofs.YtobanhbjkomieaaW.PrintMore
attribute [local go_sem] max2_int min2_int max_two min_two max_three min_three max_four min_four   -- for this text's walks alone
set_option linter.unusedVariables false
set_option linter.unusedSimpArgs false
def record_May.f (k : Nat) (ab : ByteArray) (aa : Int) (ac : Int) (ah : Bool) : Option (Bool) := (keys_Name.f k ab).bind fun aq => (if aq = true then (if aa ≥ 1 then (if aa ≤ 1099511627776 then (if ac ≥ 0 then (some (decide (ac ≤ 1125899906842624))) else (some false)) else (some false)) else (some false)) else (some false))
set_option maxHeartbeats 8000000 in
set_option maxRecDepth 100000 in
theorem record_May.calls (k : Nat) (ab : ByteArray) (aa : Int) (ac : Int) (ah : Bool) (r : Bool) (w : World) (h : record_May.f k ab aa ac ah = some r) :
  Calls Try.prog 85 #[.agg #[.string ab, .int .i64 aa, .int .i64 ac, .bool ah]] w fun e w' => e = .returned (.bool r) ∧ Below w.heap.size w w' := by
 have hu23 := Try.underlying23
 have HB := Aside0.mk (Below.refl w.heap.size w)
 have H : ((keys_Name.f k ab).bind fun aq => (if aq = true then (if aa ≥ 1 then (if aa ≤ 1099511627776 then (if ac ≥ 0 then (some (decide (ac ≤ 1125899906842624))) else (some false)) else (some false)) else (some false)) else (some false))) = some r := h
 clear h
 replace H := Option.bind_eq_some_iff.mp H
 obtain ⟨aq, A20, H⟩ := H
 replace H : (if aq = true then (if aa ≥ 1 then (if aa ≤ 1099511627776 then (if ac ≥ 0 then (some (decide (ac ≤ 1125899906842624))) else (some false)) else (some false)) else (some false)) else (some false)) = some r := H
 have A2 := Aside0.mk A20
 clear A20
 by_cases c3 : aq = true
 ·
  subst c3
  have H1 : (if aa ≥ 1 then (if aa ≤ 1099511627776 then (if ac ≥ 0 then (some (decide (ac ≤ 1125899906842624))) else (some false)) else (some false)) else (some false)) = some r := by rw [if_pos rfl] at H; exact H
  clear H
  have H := H1
  clear H1
  by_cases c4 : aa ≥ 1
  ·
   rw [if_pos c4] at H
   have c4b0 : decide (1 ≤ aa) = true := decide_eq_true c4
   clear c4
   by_cases c5 : aa ≤ 1099511627776
   ·
    rw [if_pos c5] at H
    have c5b0 : decide (aa ≤ 1099511627776) = true := decide_eq_true c5
    clear c5
    by_cases c6 : ac ≥ 0
    ·
     rw [if_pos c6] at H
     have c6b0 : decide (0 ≤ ac) = true := decide_eq_true c6
     clear c6
     obtain rfl := Option.some.inj H
     go_enter Try.func85, Try.ntmps85
     go_wp2_with (first | ((with_reducible refine gate_dst (N := 1) rfl ?_); refine box_event ?hg (N := 1) ?hd (cs := #[.string ab, .int .i64 aa, .int .i64 ac, .bool ah]) (t := 23) ?hr ?_; (case hd => rfl); (case hg => rfl); (case hr => first | (go_simp; done) | (go_simp; rfl)); intro af hg w7 hbox hb; have n0_ := Aside0.mk (below_step (by repeat (first | (with_reducible first | exact HB.out | apply below_alloc | apply pw_below_drewN | apply below_drew1) | exact HB.out)) hb); have n1_ := Aside0.mk (hbox); have n2_ := Aside0.mk ((by rw [hg]; exact (below_size (by repeat (first | (with_reducible first | exact HB.out | apply below_alloc | apply pw_below_drewN | apply below_drew1) | exact HB.out))) : w.heap.size ≤ af)); have n3_ := Aside0.mk ((by rw [hg]; exact (below_size (by repeat (first | (with_reducible first | exact HB.out | apply below_alloc | apply pw_below_drewN | apply below_drew1) | exact HB.out))) : w.heap.size ≤ af)); clear HB; have HB := n0_; have ad := n1_; have GW168 := n2_; have am := n3_; clear n0_ n1_ n2_ n3_; clear hb hbox hg; have au : w7.cell? ⟨af, 0, none⟩ = some (.string ab) := (blk_cell ad.out 0).trans rfl; have av : w7.cell? ⟨af, 1, none⟩ = some (.int .i64 aa) := (blk_cell ad.out 1).trans rfl; have aw : w7.cell? ⟨af, 2, none⟩ = some (.int .i64 ac) := (blk_cell ad.out 2).trans rfl; have ax : w7.cell? ⟨af, 3, none⟩ = some (.bool ah) := (blk_cell ad.out 3).trans rfl; have ay := blk_frozen ad.out 0; have az := blk_frozen ad.out 1; have aA := blk_frozen ad.out 2; have aB := blk_frozen ad.out 3) | ((with_reducible refine gate_callee (f := 107) rfl ?_); refine goesL_ (some 5) rfl rfl Try.func107 (by kernel_rfl) rfl #[.string ab] rfl (by (try simp only [List.map_toArray, List.map_cons, List.map_nil]); first | done | rfl | (simp only [List.length_drop, List.length_take]; rfl)) ?_; (with_reducible refine (keys_Name.calls k ab true _ A2.out).mono ?_); rintro e w' ⟨rfl, ⟨nd, rfl⟩⟩; refine ⟨_, rfl, ?_⟩))
     go_ret
     exact ⟨by first | rfl | (simp [errW_none, errW_some] <;> rfl) | (simp [*, errW_none, errW_some] <;> rfl), by repeat (first | (with_reducible first | exact HB.out | apply below_alloc | apply pw_below_drewN | apply below_drew1 | refine below_set ?_ am.out) | exact HB.out)⟩
    ·
     rw [if_neg c6] at H
     have c6b0 : decide (0 ≤ ac) = false := decide_eq_false c6
     clear c6
     obtain rfl := Option.some.inj H
     go_enter Try.func85, Try.ntmps85
     go_wp2_with (first | ((with_reducible refine gate_dst (N := 1) rfl ?_); refine box_event ?hg (N := 1) ?hd (cs := #[.string ab, .int .i64 aa, .int .i64 ac, .bool ah]) (t := 23) ?hr ?_; (case hd => rfl); (case hg => rfl); (case hr => first | (go_simp; done) | (go_simp; rfl)); intro af hg w9 hbox hb; have n0_ := Aside0.mk (below_step (by repeat (first | (with_reducible first | exact HB.out | apply below_alloc | apply pw_below_drewN | apply below_drew1) | exact HB.out)) hb); have n1_ := Aside0.mk (hbox); have n2_ := Aside0.mk ((by rw [hg]; exact (below_size (by repeat (first | (with_reducible first | exact HB.out | apply below_alloc | apply pw_below_drewN | apply below_drew1) | exact HB.out))) : w.heap.size ≤ af)); have n3_ := Aside0.mk ((by rw [hg]; exact (below_size (by repeat (first | (with_reducible first | exact HB.out | apply below_alloc | apply pw_below_drewN | apply below_drew1) | exact HB.out))) : w.heap.size ≤ af)); clear HB; have HB := n0_; have ad := n1_; have GW168 := n2_; have am := n3_; clear n0_ n1_ n2_ n3_; clear hb hbox hg; have aC : w9.cell? ⟨af, 0, none⟩ = some (.string ab) := (blk_cell ad.out 0).trans rfl; have aD : w9.cell? ⟨af, 1, none⟩ = some (.int .i64 aa) := (blk_cell ad.out 1).trans rfl; have aE : w9.cell? ⟨af, 2, none⟩ = some (.int .i64 ac) := (blk_cell ad.out 2).trans rfl; have aF : w9.cell? ⟨af, 3, none⟩ = some (.bool ah) := (blk_cell ad.out 3).trans rfl; have aG := blk_frozen ad.out 0; have aH := blk_frozen ad.out 1; have aI := blk_frozen ad.out 2; have aJ := blk_frozen ad.out 3) | ((with_reducible refine gate_callee (f := 107) rfl ?_); refine goesL_ (some 5) rfl rfl Try.func107 (by kernel_rfl) rfl #[.string ab] rfl (by (try simp only [List.map_toArray, List.map_cons, List.map_nil]); first | done | rfl | (simp only [List.length_drop, List.length_take]; rfl)) ?_; (with_reducible refine (keys_Name.calls k ab true _ A2.out).mono ?_); rintro e w' ⟨rfl, ⟨nd, rfl⟩⟩; refine ⟨_, rfl, ?_⟩))
     go_ret
     exact ⟨by first | rfl | (simp [errW_none, errW_some] <;> rfl) | (simp [*, errW_none, errW_some] <;> rfl), by repeat (first | (with_reducible first | exact HB.out | apply below_alloc | apply pw_below_drewN | apply below_drew1 | refine below_set ?_ am.out) | exact HB.out)⟩
   ·
    rw [if_neg c5] at H
    have c5b0 : decide (aa ≤ 1099511627776) = false := decide_eq_false c5
    clear c5
    obtain rfl := Option.some.inj H
    go_enter Try.func85, Try.ntmps85
    go_wp2_with (first | ((with_reducible refine gate_dst (N := 1) rfl ?_); refine box_event ?hg (N := 1) ?hd (cs := #[.string ab, .int .i64 aa, .int .i64 ac, .bool ah]) (t := 23) ?hr ?_; (case hd => rfl); (case hg => rfl); (case hr => first | (go_simp; done) | (go_simp; rfl)); intro af hg w11 hbox hb; have n0_ := Aside0.mk (below_step (by repeat (first | (with_reducible first | exact HB.out | apply below_alloc | apply pw_below_drewN | apply below_drew1) | exact HB.out)) hb); have n1_ := Aside0.mk (hbox); have n2_ := Aside0.mk ((by rw [hg]; exact (below_size (by repeat (first | (with_reducible first | exact HB.out | apply below_alloc | apply pw_below_drewN | apply below_drew1) | exact HB.out))) : w.heap.size ≤ af)); have n3_ := Aside0.mk ((by rw [hg]; exact (below_size (by repeat (first | (with_reducible first | exact HB.out | apply below_alloc | apply pw_below_drewN | apply below_drew1) | exact HB.out))) : w.heap.size ≤ af)); clear HB; have HB := n0_; have ad := n1_; have GW168 := n2_; have am := n3_; clear n0_ n1_ n2_ n3_; clear hb hbox hg; have aK : w11.cell? ⟨af, 0, none⟩ = some (.string ab) := (blk_cell ad.out 0).trans rfl; have aL : w11.cell? ⟨af, 1, none⟩ = some (.int .i64 aa) := (blk_cell ad.out 1).trans rfl; have aM : w11.cell? ⟨af, 2, none⟩ = some (.int .i64 ac) := (blk_cell ad.out 2).trans rfl; have aN : w11.cell? ⟨af, 3, none⟩ = some (.bool ah) := (blk_cell ad.out 3).trans rfl; have aO := blk_frozen ad.out 0; have aP := blk_frozen ad.out 1; have aQ := blk_frozen ad.out 2; have aR := blk_frozen ad.out 3) | ((with_reducible refine gate_callee (f := 107) rfl ?_); refine goesL_ (some 5) rfl rfl Try.func107 (by kernel_rfl) rfl #[.string ab] rfl (by (try simp only [List.map_toArray, List.map_cons, List.map_nil]); first | done | rfl | (simp only [List.length_drop, List.length_take]; rfl)) ?_; (with_reducible refine (keys_Name.calls k ab true _ A2.out).mono ?_); rintro e w' ⟨rfl, ⟨nd, rfl⟩⟩; refine ⟨_, rfl, ?_⟩))
    go_ret
    exact ⟨by first | rfl | (simp [errW_none, errW_some] <;> rfl) | (simp [*, errW_none, errW_some] <;> rfl), by repeat (first | (with_reducible first | exact HB.out | apply below_alloc | apply pw_below_drewN | apply below_drew1 | refine below_set ?_ am.out) | exact HB.out)⟩
  ·
   rw [if_neg c4] at H
   have c4b0 : decide (1 ≤ aa) = false := decide_eq_false c4
   clear c4
   obtain rfl := Option.some.inj H
   go_enter Try.func85, Try.ntmps85
   go_wp2_with (first | ((with_reducible refine gate_dst (N := 1) rfl ?_); refine box_event ?hg (N := 1) ?hd (cs := #[.string ab, .int .i64 aa, .int .i64 ac, .bool ah]) (t := 23) ?hr ?_; (case hd => rfl); (case hg => rfl); (case hr => first | (go_simp; done) | (go_simp; rfl)); intro af hg w13 hbox hb; have n0_ := Aside0.mk (below_step (by repeat (first | (with_reducible first | exact HB.out | apply below_alloc | apply pw_below_drewN | apply below_drew1) | exact HB.out)) hb); have n1_ := Aside0.mk (hbox); have n2_ := Aside0.mk ((by rw [hg]; exact (below_size (by repeat (first | (with_reducible first | exact HB.out | apply below_alloc | apply pw_below_drewN | apply below_drew1) | exact HB.out))) : w.heap.size ≤ af)); have n3_ := Aside0.mk ((by rw [hg]; exact (below_size (by repeat (first | (with_reducible first | exact HB.out | apply below_alloc | apply pw_below_drewN | apply below_drew1) | exact HB.out))) : w.heap.size ≤ af)); clear HB; have HB := n0_; have ad := n1_; have GW168 := n2_; have am := n3_; clear n0_ n1_ n2_ n3_; clear hb hbox hg; have aS : w13.cell? ⟨af, 0, none⟩ = some (.string ab) := (blk_cell ad.out 0).trans rfl; have aT : w13.cell? ⟨af, 1, none⟩ = some (.int .i64 aa) := (blk_cell ad.out 1).trans rfl; have aU : w13.cell? ⟨af, 2, none⟩ = some (.int .i64 ac) := (blk_cell ad.out 2).trans rfl; have aV : w13.cell? ⟨af, 3, none⟩ = some (.bool ah) := (blk_cell ad.out 3).trans rfl; have aW := blk_frozen ad.out 0; have aX := blk_frozen ad.out 1; have aY := blk_frozen ad.out 2; have aZ := blk_frozen ad.out 3) | ((with_reducible refine gate_callee (f := 107) rfl ?_); refine goesL_ (some 5) rfl rfl Try.func107 (by kernel_rfl) rfl #[.string ab] rfl (by (try simp only [List.map_toArray, List.map_cons, List.map_nil]); first | done | rfl | (simp only [List.length_drop, List.length_take]; rfl)) ?_; (with_reducible refine (keys_Name.calls k ab true _ A2.out).mono ?_); rintro e w' ⟨rfl, ⟨nd, rfl⟩⟩; refine ⟨_, rfl, ?_⟩))
   go_ret
   exact ⟨by first | rfl | (simp [errW_none, errW_some] <;> rfl) | (simp [*, errW_none, errW_some] <;> rfl), by repeat (first | (with_reducible first | exact HB.out | apply below_alloc | apply pw_below_drewN | apply below_drew1 | refine below_set ?_ am.out) | exact HB.out)⟩
 ·
  replace c3 := Bool.eq_false_iff.mpr c3
  subst c3
  have H1 : (some false) = some r := by rw [if_neg (show ¬ (false = true) by decide)] at H; exact H
  clear H
  have H := H1
  clear H1
  obtain rfl := Option.some.inj H
  go_enter Try.func85, Try.ntmps85
  go_wp2_with (first | ((with_reducible refine gate_dst (N := 1) rfl ?_); refine box_event ?hg (N := 1) ?hd (cs := #[.string ab, .int .i64 aa, .int .i64 ac, .bool ah]) (t := 23) ?hr ?_; (case hd => rfl); (case hg => rfl); (case hr => first | (go_simp; done) | (go_simp; rfl)); intro af hg w15 hbox hb; have n0_ := Aside0.mk (below_step (by repeat (first | (with_reducible first | exact HB.out | apply below_alloc | apply pw_below_drewN | apply below_drew1) | exact HB.out)) hb); have n1_ := Aside0.mk (hbox); have n2_ := Aside0.mk ((by rw [hg]; exact (below_size (by repeat (first | (with_reducible first | exact HB.out | apply below_alloc | apply pw_below_drewN | apply below_drew1) | exact HB.out))) : w.heap.size ≤ af)); have n3_ := Aside0.mk ((by rw [hg]; exact (below_size (by repeat (first | (with_reducible first | exact HB.out | apply below_alloc | apply pw_below_drewN | apply below_drew1) | exact HB.out))) : w.heap.size ≤ af)); clear HB; have HB := n0_; have ad := n1_; have GW168 := n2_; have am := n3_; clear n0_ n1_ n2_ n3_; clear hb hbox hg; have a0 : w15.cell? ⟨af, 0, none⟩ = some (.string ab) := (blk_cell ad.out 0).trans rfl; have a1 : w15.cell? ⟨af, 1, none⟩ = some (.int .i64 aa) := (blk_cell ad.out 1).trans rfl; have a2 : w15.cell? ⟨af, 2, none⟩ = some (.int .i64 ac) := (blk_cell ad.out 2).trans rfl; have a3 : w15.cell? ⟨af, 3, none⟩ = some (.bool ah) := (blk_cell ad.out 3).trans rfl; have a4 := blk_frozen ad.out 0; have a5 := blk_frozen ad.out 1; have a6 := blk_frozen ad.out 2; have a7 := blk_frozen ad.out 3) | ((with_reducible refine gate_callee (f := 107) rfl ?_); refine goesL_ (some 5) rfl rfl Try.func107 (by kernel_rfl) rfl #[.string ab] rfl (by (try simp only [List.map_toArray, List.map_cons, List.map_nil]); first | done | rfl | (simp only [List.length_drop, List.length_take]; rfl)) ?_; (with_reducible refine (keys_Name.calls k ab false _ A2.out).mono ?_); rintro e w' ⟨rfl, ⟨nd, rfl⟩⟩; refine ⟨_, rfl, ?_⟩))
  go_ret
  exact ⟨by first | rfl | (simp [errW_none, errW_some] <;> rfl) | (simp [*, errW_none, errW_some] <;> rfl), by repeat (first | (with_reducible first | exact HB.out | apply below_alloc | apply pw_below_drewN | apply below_drew1 | refine below_set ?_ am.out) | exact HB.out)⟩
def record_MayTenant.f (ab : Int) (aa : Int) : Option (Bool) := if aa ≥ 0 then (if aa ≤ 1099511627776 then (if ab ≥ 0 then (if ab ≤ 1048576 then (some (decide (ab ≤ aa))) else (some false)) else (some false)) else (some false)) else (some false)
set_option maxHeartbeats 8000000 in
set_option maxRecDepth 100000 in
theorem record_MayTenant.calls (ab : Int) (aa : Int) (r : Bool) (w : World) (h : record_MayTenant.f ab aa = some r) :
  Calls Try.prog 87 #[.agg #[.int .i64 ab, .int .i64 aa]] w fun e w' => e = .returned (.bool r) ∧ Below w.heap.size w w' := by
 have hu25 := Try.underlying25
 have HB := Aside0.mk (Below.refl w.heap.size w)
 have H : (if aa ≥ 0 then (if aa ≤ 1099511627776 then (if ab ≥ 0 then (if ab ≤ 1048576 then (some (decide (ab ≤ aa))) else (some false)) else (some false)) else (some false)) else (some false)) = some r := h
 clear h
 by_cases c2 : aa ≥ 0
 ·
  rw [if_pos c2] at H
  have c2b0 : decide (0 ≤ aa) = true := decide_eq_true c2
  clear c2
  by_cases c3 : aa ≤ 1099511627776
  ·
   rw [if_pos c3] at H
   have c3b0 : decide (aa ≤ 1099511627776) = true := decide_eq_true c3
   clear c3
   by_cases c4 : ab ≥ 0
   ·
    rw [if_pos c4] at H
    have c4b0 : decide (0 ≤ ab) = true := decide_eq_true c4
    clear c4
    by_cases c5 : ab ≤ 1048576
    ·
     rw [if_pos c5] at H
     have c5b0 : decide (ab ≤ 1048576) = true := decide_eq_true c5
     clear c5
     obtain rfl := Option.some.inj H
     go_enter Try.func87, Try.ntmps87
     go_wp2_with (first | ((with_reducible refine gate_dst (N := 1) rfl ?_); refine box_event ?hg (N := 1) ?hd (cs := #[.int .i64 ab, .int .i64 aa]) (t := 25) ?hr ?_; (case hd => rfl); (case hg => rfl); (case hr => first | (go_simp; done) | (go_simp; rfl)); intro ai hg w6 hbox hb; have n0_ := Aside0.mk (below_step (by repeat (first | (with_reducible first | exact HB.out | apply below_alloc | apply pw_below_drewN | apply below_drew1) | exact HB.out)) hb); have n1_ := Aside0.mk (hbox); have n2_ := Aside0.mk ((by rw [hg]; exact (below_size (by repeat (first | (with_reducible first | exact HB.out | apply below_alloc | apply pw_below_drewN | apply below_drew1) | exact HB.out))) : w.heap.size ≤ ai)); have n3_ := Aside0.mk ((by rw [hg]; exact (below_size (by repeat (first | (with_reducible first | exact HB.out | apply below_alloc | apply pw_below_drewN | apply below_drew1) | exact HB.out))) : w.heap.size ≤ ai)); clear HB; have HB := n0_; have aj := n1_; have GW170 := n2_; have an := n3_; clear n0_ n1_ n2_ n3_; clear hb hbox hg; have a8 : w6.cell? ⟨ai, 0, none⟩ = some (.int .i64 ab) := (blk_cell aj.out 0).trans rfl; have a9 : w6.cell? ⟨ai, 1, none⟩ = some (.int .i64 aa) := (blk_cell aj.out 1).trans rfl; have ba := blk_frozen aj.out 0; have bb := blk_frozen aj.out 1))
     go_ret
     exact ⟨by first | rfl | (simp [errW_none, errW_some] <;> rfl) | (simp [*, errW_none, errW_some] <;> rfl), by repeat (first | (with_reducible first | exact HB.out | apply below_alloc | apply pw_below_drewN | apply below_drew1 | refine below_set ?_ an.out) | exact HB.out)⟩
    ·
     rw [if_neg c5] at H
     have c5b0 : decide (ab ≤ 1048576) = false := decide_eq_false c5
     clear c5
     obtain rfl := Option.some.inj H
     go_enter Try.func87, Try.ntmps87
     go_wp2_with (first | ((with_reducible refine gate_dst (N := 1) rfl ?_); refine box_event ?hg (N := 1) ?hd (cs := #[.int .i64 ab, .int .i64 aa]) (t := 25) ?hr ?_; (case hd => rfl); (case hg => rfl); (case hr => first | (go_simp; done) | (go_simp; rfl)); intro ai hg w8 hbox hb; have n0_ := Aside0.mk (below_step (by repeat (first | (with_reducible first | exact HB.out | apply below_alloc | apply pw_below_drewN | apply below_drew1) | exact HB.out)) hb); have n1_ := Aside0.mk (hbox); have n2_ := Aside0.mk ((by rw [hg]; exact (below_size (by repeat (first | (with_reducible first | exact HB.out | apply below_alloc | apply pw_below_drewN | apply below_drew1) | exact HB.out))) : w.heap.size ≤ ai)); have n3_ := Aside0.mk ((by rw [hg]; exact (below_size (by repeat (first | (with_reducible first | exact HB.out | apply below_alloc | apply pw_below_drewN | apply below_drew1) | exact HB.out))) : w.heap.size ≤ ai)); clear HB; have HB := n0_; have aj := n1_; have GW170 := n2_; have an := n3_; clear n0_ n1_ n2_ n3_; clear hb hbox hg; have bc : w8.cell? ⟨ai, 0, none⟩ = some (.int .i64 ab) := (blk_cell aj.out 0).trans rfl; have bd : w8.cell? ⟨ai, 1, none⟩ = some (.int .i64 aa) := (blk_cell aj.out 1).trans rfl; have be := blk_frozen aj.out 0; have bf := blk_frozen aj.out 1))
     go_ret
     exact ⟨by first | rfl | (simp [errW_none, errW_some] <;> rfl) | (simp [*, errW_none, errW_some] <;> rfl), by repeat (first | (with_reducible first | exact HB.out | apply below_alloc | apply pw_below_drewN | apply below_drew1 | refine below_set ?_ an.out) | exact HB.out)⟩
   ·
    rw [if_neg c4] at H
    have c4b0 : decide (0 ≤ ab) = false := decide_eq_false c4
    clear c4
    obtain rfl := Option.some.inj H
    go_enter Try.func87, Try.ntmps87
    go_wp2_with (first | ((with_reducible refine gate_dst (N := 1) rfl ?_); refine box_event ?hg (N := 1) ?hd (cs := #[.int .i64 ab, .int .i64 aa]) (t := 25) ?hr ?_; (case hd => rfl); (case hg => rfl); (case hr => first | (go_simp; done) | (go_simp; rfl)); intro ai hg w10 hbox hb; have n0_ := Aside0.mk (below_step (by repeat (first | (with_reducible first | exact HB.out | apply below_alloc | apply pw_below_drewN | apply below_drew1) | exact HB.out)) hb); have n1_ := Aside0.mk (hbox); have n2_ := Aside0.mk ((by rw [hg]; exact (below_size (by repeat (first | (with_reducible first | exact HB.out | apply below_alloc | apply pw_below_drewN | apply below_drew1) | exact HB.out))) : w.heap.size ≤ ai)); have n3_ := Aside0.mk ((by rw [hg]; exact (below_size (by repeat (first | (with_reducible first | exact HB.out | apply below_alloc | apply pw_below_drewN | apply below_drew1) | exact HB.out))) : w.heap.size ≤ ai)); clear HB; have HB := n0_; have aj := n1_; have GW170 := n2_; have an := n3_; clear n0_ n1_ n2_ n3_; clear hb hbox hg; have bg : w10.cell? ⟨ai, 0, none⟩ = some (.int .i64 ab) := (blk_cell aj.out 0).trans rfl; have bh : w10.cell? ⟨ai, 1, none⟩ = some (.int .i64 aa) := (blk_cell aj.out 1).trans rfl; have bi := blk_frozen aj.out 0; have bj := blk_frozen aj.out 1))
    go_ret
    exact ⟨by first | rfl | (simp [errW_none, errW_some] <;> rfl) | (simp [*, errW_none, errW_some] <;> rfl), by repeat (first | (with_reducible first | exact HB.out | apply below_alloc | apply pw_below_drewN | apply below_drew1 | refine below_set ?_ an.out) | exact HB.out)⟩
  ·
   rw [if_neg c3] at H
   have c3b0 : decide (aa ≤ 1099511627776) = false := decide_eq_false c3
   clear c3
   obtain rfl := Option.some.inj H
   go_enter Try.func87, Try.ntmps87
   go_wp2_with (first | ((with_reducible refine gate_dst (N := 1) rfl ?_); refine box_event ?hg (N := 1) ?hd (cs := #[.int .i64 ab, .int .i64 aa]) (t := 25) ?hr ?_; (case hd => rfl); (case hg => rfl); (case hr => first | (go_simp; done) | (go_simp; rfl)); intro ai hg w12 hbox hb; have n0_ := Aside0.mk (below_step (by repeat (first | (with_reducible first | exact HB.out | apply below_alloc | apply pw_below_drewN | apply below_drew1) | exact HB.out)) hb); have n1_ := Aside0.mk (hbox); have n2_ := Aside0.mk ((by rw [hg]; exact (below_size (by repeat (first | (with_reducible first | exact HB.out | apply below_alloc | apply pw_below_drewN | apply below_drew1) | exact HB.out))) : w.heap.size ≤ ai)); have n3_ := Aside0.mk ((by rw [hg]; exact (below_size (by repeat (first | (with_reducible first | exact HB.out | apply below_alloc | apply pw_below_drewN | apply below_drew1) | exact HB.out))) : w.heap.size ≤ ai)); clear HB; have HB := n0_; have aj := n1_; have GW170 := n2_; have an := n3_; clear n0_ n1_ n2_ n3_; clear hb hbox hg; have bk : w12.cell? ⟨ai, 0, none⟩ = some (.int .i64 ab) := (blk_cell aj.out 0).trans rfl; have bl : w12.cell? ⟨ai, 1, none⟩ = some (.int .i64 aa) := (blk_cell aj.out 1).trans rfl; have bm := blk_frozen aj.out 0; have bn := blk_frozen aj.out 1))
   go_ret
   exact ⟨by first | rfl | (simp [errW_none, errW_some] <;> rfl) | (simp [*, errW_none, errW_some] <;> rfl), by repeat (first | (with_reducible first | exact HB.out | apply below_alloc | apply pw_below_drewN | apply below_drew1 | refine below_set ?_ an.out) | exact HB.out)⟩
 ·
  rw [if_neg c2] at H
  have c2b0 : decide (0 ≤ aa) = false := decide_eq_false c2
  clear c2
  obtain rfl := Option.some.inj H
  go_enter Try.func87, Try.ntmps87
  go_wp2_with (first | ((with_reducible refine gate_dst (N := 1) rfl ?_); refine box_event ?hg (N := 1) ?hd (cs := #[.int .i64 ab, .int .i64 aa]) (t := 25) ?hr ?_; (case hd => rfl); (case hg => rfl); (case hr => first | (go_simp; done) | (go_simp; rfl)); intro ai hg w14 hbox hb; have n0_ := Aside0.mk (below_step (by repeat (first | (with_reducible first | exact HB.out | apply below_alloc | apply pw_below_drewN | apply below_drew1) | exact HB.out)) hb); have n1_ := Aside0.mk (hbox); have n2_ := Aside0.mk ((by rw [hg]; exact (below_size (by repeat (first | (with_reducible first | exact HB.out | apply below_alloc | apply pw_below_drewN | apply below_drew1) | exact HB.out))) : w.heap.size ≤ ai)); have n3_ := Aside0.mk ((by rw [hg]; exact (below_size (by repeat (first | (with_reducible first | exact HB.out | apply below_alloc | apply pw_below_drewN | apply below_drew1) | exact HB.out))) : w.heap.size ≤ ai)); clear HB; have HB := n0_; have aj := n1_; have GW170 := n2_; have an := n3_; clear n0_ n1_ n2_ n3_; clear hb hbox hg; have bo : w14.cell? ⟨ai, 0, none⟩ = some (.int .i64 ab) := (blk_cell aj.out 0).trans rfl; have bp : w14.cell? ⟨ai, 1, none⟩ = some (.int .i64 aa) := (blk_cell aj.out 1).trans rfl; have bq := blk_frozen aj.out 0; have br := blk_frozen aj.out 1))
  go_ret
  exact ⟨by first | rfl | (simp [errW_none, errW_some] <;> rfl) | (simp [*, errW_none, errW_some] <;> rfl), by repeat (first | (with_reducible first | exact HB.out | apply below_alloc | apply pw_below_drewN | apply below_drew1 | refine below_set ?_ an.out) | exact HB.out)⟩
def batonref18_May.f (k : Nat) (ab : ByteArray) (aa : Int) (ac : Int) (ah : Bool) : Option (Bool) := (batonref11_Name.f k ab).bind fun ar => (if ar = true then (if aa ≥ 1 then (if aa ≤ 1099511627776 then (if ac ≥ 0 then (some (decide (ac ≤ 1125899906842624))) else (some false)) else (some false)) else (some false)) else (some false))
set_option maxHeartbeats 8000000 in
set_option maxRecDepth 100000 in
theorem batonref18_May.calls (k : Nat) (ab : ByteArray) (aa : Int) (ac : Int) (ah : Bool) (r : Bool) (w : World) (h : batonref18_May.f k ab aa ac ah = some r) :
  Calls Try.prog 86 #[.agg #[.string ab, .int .i64 aa, .int .i64 ac, .bool ah]] w fun e w' => e = .returned (.bool r) ∧ Below w.heap.size w w' := by
 have hu23 := Try.underlying23
 have HB := Aside0.mk (Below.refl w.heap.size w)
 have H : ((batonref11_Name.f k ab).bind fun ar => (if ar = true then (if aa ≥ 1 then (if aa ≤ 1099511627776 then (if ac ≥ 0 then (some (decide (ac ≤ 1125899906842624))) else (some false)) else (some false)) else (some false)) else (some false))) = some r := h
 clear h
 replace H := Option.bind_eq_some_iff.mp H
 obtain ⟨ar, A20, H⟩ := H
 replace H : (if ar = true then (if aa ≥ 1 then (if aa ≤ 1099511627776 then (if ac ≥ 0 then (some (decide (ac ≤ 1125899906842624))) else (some false)) else (some false)) else (some false)) else (some false)) = some r := H
 have A2 := Aside0.mk A20
 clear A20
 by_cases c3 : ar = true
 ·
  subst c3
  have H1 : (if aa ≥ 1 then (if aa ≤ 1099511627776 then (if ac ≥ 0 then (some (decide (ac ≤ 1125899906842624))) else (some false)) else (some false)) else (some false)) = some r := by rw [if_pos rfl] at H; exact H
  clear H
  have H := H1
  clear H1
  by_cases c4 : aa ≥ 1
  ·
   rw [if_pos c4] at H
   have c4b0 : decide (1 ≤ aa) = true := decide_eq_true c4
   clear c4
   by_cases c5 : aa ≤ 1099511627776
   ·
    rw [if_pos c5] at H
    have c5b0 : decide (aa ≤ 1099511627776) = true := decide_eq_true c5
    clear c5
    by_cases c6 : ac ≥ 0
    ·
     rw [if_pos c6] at H
     have c6b0 : decide (0 ≤ ac) = true := decide_eq_true c6
     clear c6
     obtain rfl := Option.some.inj H
     go_enter Try.func86, Try.ntmps86
     go_wp2_with (first | ((with_reducible refine gate_dst (N := 1) rfl ?_); refine box_event ?hg (N := 1) ?hd (cs := #[.string ab, .int .i64 aa, .int .i64 ac, .bool ah]) (t := 23) ?hr ?_; (case hd => rfl); (case hg => rfl); (case hr => first | (go_simp; done) | (go_simp; rfl)); intro ag hg w7 hbox hb; have n0_ := Aside0.mk (below_step (by repeat (first | (with_reducible first | exact HB.out | apply below_alloc | apply pw_below_drewN | apply below_drew1) | exact HB.out)) hb); have n1_ := Aside0.mk (hbox); have n2_ := Aside0.mk ((by rw [hg]; exact (below_size (by repeat (first | (with_reducible first | exact HB.out | apply below_alloc | apply pw_below_drewN | apply below_drew1) | exact HB.out))) : w.heap.size ≤ ag)); have n3_ := Aside0.mk ((by rw [hg]; exact (below_size (by repeat (first | (with_reducible first | exact HB.out | apply below_alloc | apply pw_below_drewN | apply below_drew1) | exact HB.out))) : w.heap.size ≤ ag)); clear HB; have HB := n0_; have ae := n1_; have GW171 := n2_; have ao := n3_; clear n0_ n1_ n2_ n3_; clear hb hbox hg; have au : w7.cell? ⟨ag, 0, none⟩ = some (.string ab) := (blk_cell ae.out 0).trans rfl; have av : w7.cell? ⟨ag, 1, none⟩ = some (.int .i64 aa) := (blk_cell ae.out 1).trans rfl; have aw : w7.cell? ⟨ag, 2, none⟩ = some (.int .i64 ac) := (blk_cell ae.out 2).trans rfl; have ax : w7.cell? ⟨ag, 3, none⟩ = some (.bool ah) := (blk_cell ae.out 3).trans rfl; have ay := blk_frozen ae.out 0; have az := blk_frozen ae.out 1; have aA := blk_frozen ae.out 2; have aB := blk_frozen ae.out 3) | ((with_reducible refine gate_callee (f := 94) rfl ?_); refine goesL_ (some 5) rfl rfl Try.func94 (by kernel_rfl) rfl #[.string ab] rfl (by (try simp only [List.map_toArray, List.map_cons, List.map_nil]); first | done | rfl | (simp only [List.length_drop, List.length_take]; rfl)) ?_; (with_reducible refine (batonref11_Name.calls k ab true _ A2.out).mono ?_); rintro e w' ⟨rfl, ⟨nd, rfl⟩⟩; refine ⟨_, rfl, ?_⟩))
     go_ret
     exact ⟨by first | rfl | (simp [errW_none, errW_some] <;> rfl) | (simp [*, errW_none, errW_some] <;> rfl), by repeat (first | (with_reducible first | exact HB.out | apply below_alloc | apply pw_below_drewN | apply below_drew1 | refine below_set ?_ ao.out) | exact HB.out)⟩
    ·
     rw [if_neg c6] at H
     have c6b0 : decide (0 ≤ ac) = false := decide_eq_false c6
     clear c6
     obtain rfl := Option.some.inj H
     go_enter Try.func86, Try.ntmps86
     go_wp2_with (first | ((with_reducible refine gate_dst (N := 1) rfl ?_); refine box_event ?hg (N := 1) ?hd (cs := #[.string ab, .int .i64 aa, .int .i64 ac, .bool ah]) (t := 23) ?hr ?_; (case hd => rfl); (case hg => rfl); (case hr => first | (go_simp; done) | (go_simp; rfl)); intro ag hg w9 hbox hb; have n0_ := Aside0.mk (below_step (by repeat (first | (with_reducible first | exact HB.out | apply below_alloc | apply pw_below_drewN | apply below_drew1) | exact HB.out)) hb); have n1_ := Aside0.mk (hbox); have n2_ := Aside0.mk ((by rw [hg]; exact (below_size (by repeat (first | (with_reducible first | exact HB.out | apply below_alloc | apply pw_below_drewN | apply below_drew1) | exact HB.out))) : w.heap.size ≤ ag)); have n3_ := Aside0.mk ((by rw [hg]; exact (below_size (by repeat (first | (with_reducible first | exact HB.out | apply below_alloc | apply pw_below_drewN | apply below_drew1) | exact HB.out))) : w.heap.size ≤ ag)); clear HB; have HB := n0_; have ae := n1_; have GW171 := n2_; have ao := n3_; clear n0_ n1_ n2_ n3_; clear hb hbox hg; have aC : w9.cell? ⟨ag, 0, none⟩ = some (.string ab) := (blk_cell ae.out 0).trans rfl; have aD : w9.cell? ⟨ag, 1, none⟩ = some (.int .i64 aa) := (blk_cell ae.out 1).trans rfl; have aE : w9.cell? ⟨ag, 2, none⟩ = some (.int .i64 ac) := (blk_cell ae.out 2).trans rfl; have aF : w9.cell? ⟨ag, 3, none⟩ = some (.bool ah) := (blk_cell ae.out 3).trans rfl; have aG := blk_frozen ae.out 0; have aH := blk_frozen ae.out 1; have aI := blk_frozen ae.out 2; have aJ := blk_frozen ae.out 3) | ((with_reducible refine gate_callee (f := 94) rfl ?_); refine goesL_ (some 5) rfl rfl Try.func94 (by kernel_rfl) rfl #[.string ab] rfl (by (try simp only [List.map_toArray, List.map_cons, List.map_nil]); first | done | rfl | (simp only [List.length_drop, List.length_take]; rfl)) ?_; (with_reducible refine (batonref11_Name.calls k ab true _ A2.out).mono ?_); rintro e w' ⟨rfl, ⟨nd, rfl⟩⟩; refine ⟨_, rfl, ?_⟩))
     go_ret
     exact ⟨by first | rfl | (simp [errW_none, errW_some] <;> rfl) | (simp [*, errW_none, errW_some] <;> rfl), by repeat (first | (with_reducible first | exact HB.out | apply below_alloc | apply pw_below_drewN | apply below_drew1 | refine below_set ?_ ao.out) | exact HB.out)⟩
   ·
    rw [if_neg c5] at H
    have c5b0 : decide (aa ≤ 1099511627776) = false := decide_eq_false c5
    clear c5
    obtain rfl := Option.some.inj H
    go_enter Try.func86, Try.ntmps86
    go_wp2_with (first | ((with_reducible refine gate_dst (N := 1) rfl ?_); refine box_event ?hg (N := 1) ?hd (cs := #[.string ab, .int .i64 aa, .int .i64 ac, .bool ah]) (t := 23) ?hr ?_; (case hd => rfl); (case hg => rfl); (case hr => first | (go_simp; done) | (go_simp; rfl)); intro ag hg w11 hbox hb; have n0_ := Aside0.mk (below_step (by repeat (first | (with_reducible first | exact HB.out | apply below_alloc | apply pw_below_drewN | apply below_drew1) | exact HB.out)) hb); have n1_ := Aside0.mk (hbox); have n2_ := Aside0.mk ((by rw [hg]; exact (below_size (by repeat (first | (with_reducible first | exact HB.out | apply below_alloc | apply pw_below_drewN | apply below_drew1) | exact HB.out))) : w.heap.size ≤ ag)); have n3_ := Aside0.mk ((by rw [hg]; exact (below_size (by repeat (first | (with_reducible first | exact HB.out | apply below_alloc | apply pw_below_drewN | apply below_drew1) | exact HB.out))) : w.heap.size ≤ ag)); clear HB; have HB := n0_; have ae := n1_; have GW171 := n2_; have ao := n3_; clear n0_ n1_ n2_ n3_; clear hb hbox hg; have aK : w11.cell? ⟨ag, 0, none⟩ = some (.string ab) := (blk_cell ae.out 0).trans rfl; have aL : w11.cell? ⟨ag, 1, none⟩ = some (.int .i64 aa) := (blk_cell ae.out 1).trans rfl; have aM : w11.cell? ⟨ag, 2, none⟩ = some (.int .i64 ac) := (blk_cell ae.out 2).trans rfl; have aN : w11.cell? ⟨ag, 3, none⟩ = some (.bool ah) := (blk_cell ae.out 3).trans rfl; have aO := blk_frozen ae.out 0; have aP := blk_frozen ae.out 1; have aQ := blk_frozen ae.out 2; have aR := blk_frozen ae.out 3) | ((with_reducible refine gate_callee (f := 94) rfl ?_); refine goesL_ (some 5) rfl rfl Try.func94 (by kernel_rfl) rfl #[.string ab] rfl (by (try simp only [List.map_toArray, List.map_cons, List.map_nil]); first | done | rfl | (simp only [List.length_drop, List.length_take]; rfl)) ?_; (with_reducible refine (batonref11_Name.calls k ab true _ A2.out).mono ?_); rintro e w' ⟨rfl, ⟨nd, rfl⟩⟩; refine ⟨_, rfl, ?_⟩))
    go_ret
    exact ⟨by first | rfl | (simp [errW_none, errW_some] <;> rfl) | (simp [*, errW_none, errW_some] <;> rfl), by repeat (first | (with_reducible first | exact HB.out | apply below_alloc | apply pw_below_drewN | apply below_drew1 | refine below_set ?_ ao.out) | exact HB.out)⟩
  ·
   rw [if_neg c4] at H
   have c4b0 : decide (1 ≤ aa) = false := decide_eq_false c4
   clear c4
   obtain rfl := Option.some.inj H
   go_enter Try.func86, Try.ntmps86
   go_wp2_with (first | ((with_reducible refine gate_dst (N := 1) rfl ?_); refine box_event ?hg (N := 1) ?hd (cs := #[.string ab, .int .i64 aa, .int .i64 ac, .bool ah]) (t := 23) ?hr ?_; (case hd => rfl); (case hg => rfl); (case hr => first | (go_simp; done) | (go_simp; rfl)); intro ag hg w13 hbox hb; have n0_ := Aside0.mk (below_step (by repeat (first | (with_reducible first | exact HB.out | apply below_alloc | apply pw_below_drewN | apply below_drew1) | exact HB.out)) hb); have n1_ := Aside0.mk (hbox); have n2_ := Aside0.mk ((by rw [hg]; exact (below_size (by repeat (first | (with_reducible first | exact HB.out | apply below_alloc | apply pw_below_drewN | apply below_drew1) | exact HB.out))) : w.heap.size ≤ ag)); have n3_ := Aside0.mk ((by rw [hg]; exact (below_size (by repeat (first | (with_reducible first | exact HB.out | apply below_alloc | apply pw_below_drewN | apply below_drew1) | exact HB.out))) : w.heap.size ≤ ag)); clear HB; have HB := n0_; have ae := n1_; have GW171 := n2_; have ao := n3_; clear n0_ n1_ n2_ n3_; clear hb hbox hg; have aS : w13.cell? ⟨ag, 0, none⟩ = some (.string ab) := (blk_cell ae.out 0).trans rfl; have aT : w13.cell? ⟨ag, 1, none⟩ = some (.int .i64 aa) := (blk_cell ae.out 1).trans rfl; have aU : w13.cell? ⟨ag, 2, none⟩ = some (.int .i64 ac) := (blk_cell ae.out 2).trans rfl; have aV : w13.cell? ⟨ag, 3, none⟩ = some (.bool ah) := (blk_cell ae.out 3).trans rfl; have aW := blk_frozen ae.out 0; have aX := blk_frozen ae.out 1; have aY := blk_frozen ae.out 2; have aZ := blk_frozen ae.out 3) | ((with_reducible refine gate_callee (f := 94) rfl ?_); refine goesL_ (some 5) rfl rfl Try.func94 (by kernel_rfl) rfl #[.string ab] rfl (by (try simp only [List.map_toArray, List.map_cons, List.map_nil]); first | done | rfl | (simp only [List.length_drop, List.length_take]; rfl)) ?_; (with_reducible refine (batonref11_Name.calls k ab true _ A2.out).mono ?_); rintro e w' ⟨rfl, ⟨nd, rfl⟩⟩; refine ⟨_, rfl, ?_⟩))
   go_ret
   exact ⟨by first | rfl | (simp [errW_none, errW_some] <;> rfl) | (simp [*, errW_none, errW_some] <;> rfl), by repeat (first | (with_reducible first | exact HB.out | apply below_alloc | apply pw_below_drewN | apply below_drew1 | refine below_set ?_ ao.out) | exact HB.out)⟩
 ·
  replace c3 := Bool.eq_false_iff.mpr c3
  subst c3
  have H1 : (some false) = some r := by rw [if_neg (show ¬ (false = true) by decide)] at H; exact H
  clear H
  have H := H1
  clear H1
  obtain rfl := Option.some.inj H
  go_enter Try.func86, Try.ntmps86
  go_wp2_with (first | ((with_reducible refine gate_dst (N := 1) rfl ?_); refine box_event ?hg (N := 1) ?hd (cs := #[.string ab, .int .i64 aa, .int .i64 ac, .bool ah]) (t := 23) ?hr ?_; (case hd => rfl); (case hg => rfl); (case hr => first | (go_simp; done) | (go_simp; rfl)); intro ag hg w15 hbox hb; have n0_ := Aside0.mk (below_step (by repeat (first | (with_reducible first | exact HB.out | apply below_alloc | apply pw_below_drewN | apply below_drew1) | exact HB.out)) hb); have n1_ := Aside0.mk (hbox); have n2_ := Aside0.mk ((by rw [hg]; exact (below_size (by repeat (first | (with_reducible first | exact HB.out | apply below_alloc | apply pw_below_drewN | apply below_drew1) | exact HB.out))) : w.heap.size ≤ ag)); have n3_ := Aside0.mk ((by rw [hg]; exact (below_size (by repeat (first | (with_reducible first | exact HB.out | apply below_alloc | apply pw_below_drewN | apply below_drew1) | exact HB.out))) : w.heap.size ≤ ag)); clear HB; have HB := n0_; have ae := n1_; have GW171 := n2_; have ao := n3_; clear n0_ n1_ n2_ n3_; clear hb hbox hg; have a0 : w15.cell? ⟨ag, 0, none⟩ = some (.string ab) := (blk_cell ae.out 0).trans rfl; have a1 : w15.cell? ⟨ag, 1, none⟩ = some (.int .i64 aa) := (blk_cell ae.out 1).trans rfl; have a2 : w15.cell? ⟨ag, 2, none⟩ = some (.int .i64 ac) := (blk_cell ae.out 2).trans rfl; have a3 : w15.cell? ⟨ag, 3, none⟩ = some (.bool ah) := (blk_cell ae.out 3).trans rfl; have a4 := blk_frozen ae.out 0; have a5 := blk_frozen ae.out 1; have a6 := blk_frozen ae.out 2; have a7 := blk_frozen ae.out 3) | ((with_reducible refine gate_callee (f := 94) rfl ?_); refine goesL_ (some 5) rfl rfl Try.func94 (by kernel_rfl) rfl #[.string ab] rfl (by (try simp only [List.map_toArray, List.map_cons, List.map_nil]); first | done | rfl | (simp only [List.length_drop, List.length_take]; rfl)) ?_; (with_reducible refine (batonref11_Name.calls k ab false _ A2.out).mono ?_); rintro e w' ⟨rfl, ⟨nd, rfl⟩⟩; refine ⟨_, rfl, ?_⟩))
  go_ret
  exact ⟨by first | rfl | (simp [errW_none, errW_some] <;> rfl) | (simp [*, errW_none, errW_some] <;> rfl), by repeat (first | (with_reducible first | exact HB.out | apply below_alloc | apply pw_below_drewN | apply below_drew1 | refine below_set ?_ ao.out) | exact HB.out)⟩
def batonref18_MayTenant.f (ab : Int) (aa : Int) : Option (Bool) := if aa ≥ 0 then (if aa ≤ 1099511627776 then (if ab ≥ 0 then (if ab ≤ aa then (some (decide (ab ≤ 1048576))) else (some false)) else (some false)) else (some false)) else (some false)
set_option maxHeartbeats 8000000 in
set_option maxRecDepth 100000 in
theorem batonref18_MayTenant.calls (ab : Int) (aa : Int) (r : Bool) (w : World) (h : batonref18_MayTenant.f ab aa = some r) :
  Calls Try.prog 88 #[.agg #[.int .i64 ab, .int .i64 aa]] w fun e w' => e = .returned (.bool r) ∧ Below w.heap.size w w' := by
 have hu25 := Try.underlying25
 have HB := Aside0.mk (Below.refl w.heap.size w)
 have H : (if aa ≥ 0 then (if aa ≤ 1099511627776 then (if ab ≥ 0 then (if ab ≤ aa then (some (decide (ab ≤ 1048576))) else (some false)) else (some false)) else (some false)) else (some false)) = some r := h
 clear h
 by_cases c2 : aa ≥ 0
 ·
  rw [if_pos c2] at H
  have c2b0 : decide (0 ≤ aa) = true := decide_eq_true c2
  clear c2
  by_cases c3 : aa ≤ 1099511627776
  ·
   rw [if_pos c3] at H
   have c3b0 : decide (aa ≤ 1099511627776) = true := decide_eq_true c3
   clear c3
   by_cases c4 : ab ≥ 0
   ·
    rw [if_pos c4] at H
    have c4b0 : decide (0 ≤ ab) = true := decide_eq_true c4
    clear c4
    by_cases c5 : ab ≤ aa
    ·
     rw [if_pos c5] at H
     have c5b0 : decide (ab ≤ aa) = true := decide_eq_true c5
     clear c5
     obtain rfl := Option.some.inj H
     go_enter Try.func88, Try.ntmps88
     go_wp2_with (first | ((with_reducible refine gate_dst (N := 1) rfl ?_); refine box_event ?hg (N := 1) ?hd (cs := #[.int .i64 ab, .int .i64 aa]) (t := 25) ?hr ?_; (case hd => rfl); (case hg => rfl); (case hr => first | (go_simp; done) | (go_simp; rfl)); intro ak hg w6 hbox hb; have n0_ := Aside0.mk (below_step (by repeat (first | (with_reducible first | exact HB.out | apply below_alloc | apply pw_below_drewN | apply below_drew1) | exact HB.out)) hb); have n1_ := Aside0.mk (hbox); have n2_ := Aside0.mk ((by rw [hg]; exact (below_size (by repeat (first | (with_reducible first | exact HB.out | apply below_alloc | apply pw_below_drewN | apply below_drew1) | exact HB.out))) : w.heap.size ≤ ak)); have n3_ := Aside0.mk ((by rw [hg]; exact (below_size (by repeat (first | (with_reducible first | exact HB.out | apply below_alloc | apply pw_below_drewN | apply below_drew1) | exact HB.out))) : w.heap.size ≤ ak)); clear HB; have HB := n0_; have al := n1_; have GW173 := n2_; have ap := n3_; clear n0_ n1_ n2_ n3_; clear hb hbox hg; have a8 : w6.cell? ⟨ak, 0, none⟩ = some (.int .i64 ab) := (blk_cell al.out 0).trans rfl; have a9 : w6.cell? ⟨ak, 1, none⟩ = some (.int .i64 aa) := (blk_cell al.out 1).trans rfl; have ba := blk_frozen al.out 0; have bb := blk_frozen al.out 1))
     go_ret
     exact ⟨by first | rfl | (simp [errW_none, errW_some] <;> rfl) | (simp [*, errW_none, errW_some] <;> rfl), by repeat (first | (with_reducible first | exact HB.out | apply below_alloc | apply pw_below_drewN | apply below_drew1 | refine below_set ?_ ap.out) | exact HB.out)⟩
    ·
     rw [if_neg c5] at H
     have c5b0 : decide (ab ≤ aa) = false := decide_eq_false c5
     clear c5
     obtain rfl := Option.some.inj H
     go_enter Try.func88, Try.ntmps88
     go_wp2_with (first | ((with_reducible refine gate_dst (N := 1) rfl ?_); refine box_event ?hg (N := 1) ?hd (cs := #[.int .i64 ab, .int .i64 aa]) (t := 25) ?hr ?_; (case hd => rfl); (case hg => rfl); (case hr => first | (go_simp; done) | (go_simp; rfl)); intro ak hg w8 hbox hb; have n0_ := Aside0.mk (below_step (by repeat (first | (with_reducible first | exact HB.out | apply below_alloc | apply pw_below_drewN | apply below_drew1) | exact HB.out)) hb); have n1_ := Aside0.mk (hbox); have n2_ := Aside0.mk ((by rw [hg]; exact (below_size (by repeat (first | (with_reducible first | exact HB.out | apply below_alloc | apply pw_below_drewN | apply below_drew1) | exact HB.out))) : w.heap.size ≤ ak)); have n3_ := Aside0.mk ((by rw [hg]; exact (below_size (by repeat (first | (with_reducible first | exact HB.out | apply below_alloc | apply pw_below_drewN | apply below_drew1) | exact HB.out))) : w.heap.size ≤ ak)); clear HB; have HB := n0_; have al := n1_; have GW173 := n2_; have ap := n3_; clear n0_ n1_ n2_ n3_; clear hb hbox hg; have bc : w8.cell? ⟨ak, 0, none⟩ = some (.int .i64 ab) := (blk_cell al.out 0).trans rfl; have bd : w8.cell? ⟨ak, 1, none⟩ = some (.int .i64 aa) := (blk_cell al.out 1).trans rfl; have be := blk_frozen al.out 0; have bf := blk_frozen al.out 1))
     go_ret
     exact ⟨by first | rfl | (simp [errW_none, errW_some] <;> rfl) | (simp [*, errW_none, errW_some] <;> rfl), by repeat (first | (with_reducible first | exact HB.out | apply below_alloc | apply pw_below_drewN | apply below_drew1 | refine below_set ?_ ap.out) | exact HB.out)⟩
   ·
    rw [if_neg c4] at H
    have c4b0 : decide (0 ≤ ab) = false := decide_eq_false c4
    clear c4
    obtain rfl := Option.some.inj H
    go_enter Try.func88, Try.ntmps88
    go_wp2_with (first | ((with_reducible refine gate_dst (N := 1) rfl ?_); refine box_event ?hg (N := 1) ?hd (cs := #[.int .i64 ab, .int .i64 aa]) (t := 25) ?hr ?_; (case hd => rfl); (case hg => rfl); (case hr => first | (go_simp; done) | (go_simp; rfl)); intro ak hg w10 hbox hb; have n0_ := Aside0.mk (below_step (by repeat (first | (with_reducible first | exact HB.out | apply below_alloc | apply pw_below_drewN | apply below_drew1) | exact HB.out)) hb); have n1_ := Aside0.mk (hbox); have n2_ := Aside0.mk ((by rw [hg]; exact (below_size (by repeat (first | (with_reducible first | exact HB.out | apply below_alloc | apply pw_below_drewN | apply below_drew1) | exact HB.out))) : w.heap.size ≤ ak)); have n3_ := Aside0.mk ((by rw [hg]; exact (below_size (by repeat (first | (with_reducible first | exact HB.out | apply below_alloc | apply pw_below_drewN | apply below_drew1) | exact HB.out))) : w.heap.size ≤ ak)); clear HB; have HB := n0_; have al := n1_; have GW173 := n2_; have ap := n3_; clear n0_ n1_ n2_ n3_; clear hb hbox hg; have bg : w10.cell? ⟨ak, 0, none⟩ = some (.int .i64 ab) := (blk_cell al.out 0).trans rfl; have bh : w10.cell? ⟨ak, 1, none⟩ = some (.int .i64 aa) := (blk_cell al.out 1).trans rfl; have bi := blk_frozen al.out 0; have bj := blk_frozen al.out 1))
    go_ret
    exact ⟨by first | rfl | (simp [errW_none, errW_some] <;> rfl) | (simp [*, errW_none, errW_some] <;> rfl), by repeat (first | (with_reducible first | exact HB.out | apply below_alloc | apply pw_below_drewN | apply below_drew1 | refine below_set ?_ ap.out) | exact HB.out)⟩
  ·
   rw [if_neg c3] at H
   have c3b0 : decide (aa ≤ 1099511627776) = false := decide_eq_false c3
   clear c3
   obtain rfl := Option.some.inj H
   go_enter Try.func88, Try.ntmps88
   go_wp2_with (first | ((with_reducible refine gate_dst (N := 1) rfl ?_); refine box_event ?hg (N := 1) ?hd (cs := #[.int .i64 ab, .int .i64 aa]) (t := 25) ?hr ?_; (case hd => rfl); (case hg => rfl); (case hr => first | (go_simp; done) | (go_simp; rfl)); intro ak hg w12 hbox hb; have n0_ := Aside0.mk (below_step (by repeat (first | (with_reducible first | exact HB.out | apply below_alloc | apply pw_below_drewN | apply below_drew1) | exact HB.out)) hb); have n1_ := Aside0.mk (hbox); have n2_ := Aside0.mk ((by rw [hg]; exact (below_size (by repeat (first | (with_reducible first | exact HB.out | apply below_alloc | apply pw_below_drewN | apply below_drew1) | exact HB.out))) : w.heap.size ≤ ak)); have n3_ := Aside0.mk ((by rw [hg]; exact (below_size (by repeat (first | (with_reducible first | exact HB.out | apply below_alloc | apply pw_below_drewN | apply below_drew1) | exact HB.out))) : w.heap.size ≤ ak)); clear HB; have HB := n0_; have al := n1_; have GW173 := n2_; have ap := n3_; clear n0_ n1_ n2_ n3_; clear hb hbox hg; have bk : w12.cell? ⟨ak, 0, none⟩ = some (.int .i64 ab) := (blk_cell al.out 0).trans rfl; have bl : w12.cell? ⟨ak, 1, none⟩ = some (.int .i64 aa) := (blk_cell al.out 1).trans rfl; have bm := blk_frozen al.out 0; have bn := blk_frozen al.out 1))
   go_ret
   exact ⟨by first | rfl | (simp [errW_none, errW_some] <;> rfl) | (simp [*, errW_none, errW_some] <;> rfl), by repeat (first | (with_reducible first | exact HB.out | apply below_alloc | apply pw_below_drewN | apply below_drew1 | refine below_set ?_ ap.out) | exact HB.out)⟩
 ·
  rw [if_neg c2] at H
  have c2b0 : decide (0 ≤ aa) = false := decide_eq_false c2
  clear c2
  obtain rfl := Option.some.inj H
  go_enter Try.func88, Try.ntmps88
  go_wp2_with (first | ((with_reducible refine gate_dst (N := 1) rfl ?_); refine box_event ?hg (N := 1) ?hd (cs := #[.int .i64 ab, .int .i64 aa]) (t := 25) ?hr ?_; (case hd => rfl); (case hg => rfl); (case hr => first | (go_simp; done) | (go_simp; rfl)); intro ak hg w14 hbox hb; have n0_ := Aside0.mk (below_step (by repeat (first | (with_reducible first | exact HB.out | apply below_alloc | apply pw_below_drewN | apply below_drew1) | exact HB.out)) hb); have n1_ := Aside0.mk (hbox); have n2_ := Aside0.mk ((by rw [hg]; exact (below_size (by repeat (first | (with_reducible first | exact HB.out | apply below_alloc | apply pw_below_drewN | apply below_drew1) | exact HB.out))) : w.heap.size ≤ ak)); have n3_ := Aside0.mk ((by rw [hg]; exact (below_size (by repeat (first | (with_reducible first | exact HB.out | apply below_alloc | apply pw_below_drewN | apply below_drew1) | exact HB.out))) : w.heap.size ≤ ak)); clear HB; have HB := n0_; have al := n1_; have GW173 := n2_; have ap := n3_; clear n0_ n1_ n2_ n3_; clear hb hbox hg; have bo : w14.cell? ⟨ak, 0, none⟩ = some (.int .i64 ab) := (blk_cell al.out 0).trans rfl; have bp : w14.cell? ⟨ak, 1, none⟩ = some (.int .i64 aa) := (blk_cell al.out 1).trans rfl; have bq := blk_frozen al.out 0; have br := blk_frozen al.out 1))
  go_ret
  exact ⟨by first | rfl | (simp [errW_none, errW_some] <;> rfl) | (simp [*, errW_none, errW_some] <;> rfl), by repeat (first | (with_reducible first | exact HB.out | apply below_alloc | apply pw_below_drewN | apply below_drew1 | refine below_set ?_ ap.out) | exact HB.out)⟩
end Go.Proofs.Ytobanhbjkomieaa.PAll
