import Derived.Test.YtobanhbjkomieaaPElx0Sv
namespace Go.Proofs.Ytobanhbjkomieaa.PEl
open Go.RowKit Go.Proofs.YtobanhbjkomieaaW.PrintWords Go.Proofs.YtobanhbjkomieaaW.PrintLast Go.Proofs.YtobanhbjkomieaaW.PrintMore
attribute [local go_sem] max2_int min2_int max_two min_two max_three min_three max_four min_four   -- for this text's walks alone
set_option linter.unusedVariables false
set_option linter.unusedSimpArgs false
def batonref20_Live.f (ac : ByteArray) (ad : Int) (ai : Int) (ah : Bool) (ao : Bool) (af : Int) (al : Int) (am : Int) (ag : Int) : Option (Bool) := if ao = true then (some (!ah)) else (some false)
set_option maxHeartbeats 8000000 in
set_option maxRecDepth 100000 in
theorem batonref20_Live.calls (ac : ByteArray) (ad : Int) (ai : Int) (ah : Bool) (ao : Bool) (af : Int) (al : Int) (am : Int) (ag : Int) (r : Bool) (w : World) (h : batonref20_Live.f ac ad ai ah ao af al am ag = some r) :
  Calls Try.prog 31 #[.agg #[.string ac, .int .i64 ad, .int .i64 ai, .bool ah, .bool ao, .int .i64 af, .int .i64 al, .int .i64 am, .int .i64 ag]] w fun e w' => e = .returned (.bool r) ∧ Below w.heap.size w w' := by
 have hu27 := Try.underlying27
 have HB := Aside0.mk (Below.refl w.heap.size w)
 have H : (if ao = true then (some (!ah)) else (some false)) = some r := h
 clear h
 by_cases c2 : ao = true
 ·
  subst c2
  have H1 : (some (!ah)) = some r := by rw [if_pos rfl] at H; exact H
  clear H
  have H := H1
  clear H1
  obtain rfl := Option.some.inj H
  go_enter Try.func31, Try.ntmps31
  go_wp2_with (first | ((with_reducible refine gate_dst (N := 1) rfl ?_); refine box_event ?hg (N := 1) ?hd (cs := #[.string ac, .int .i64 ad, .int .i64 ai, .bool ah, .bool true, .int .i64 af, .int .i64 al, .int .i64 am, .int .i64 ag]) (t := 27) ?hr ?_; (case hd => rfl); (case hg => rfl); (case hr => first | (go_simp; done) | (go_simp; rfl)); intro aj hg w3 hbox hb; have n0_ := Aside0.mk (below_step (by repeat (first | (with_reducible first | exact HB.out | apply below_alloc | apply pw_below_drewN | apply below_drew1) | exact HB.out)) hb); have n1_ := Aside0.mk (hbox); have n2_ := Aside0.mk ((by rw [hg]; exact (below_size (by repeat (first | (with_reducible first | exact HB.out | apply below_alloc | apply pw_below_drewN | apply below_drew1) | exact HB.out))) : w.heap.size ≤ aj)); have n3_ := Aside0.mk ((by rw [hg]; exact (below_size (by repeat (first | (with_reducible first | exact HB.out | apply below_alloc | apply pw_below_drewN | apply below_drew1) | exact HB.out))) : w.heap.size ≤ aj)); clear HB; have HB := n0_; have ab := n1_; have GW106 := n2_; have aV := n3_; clear n0_ n1_ n2_ n3_; clear hb hbox hg; have bb : w3.cell? ⟨aj, 0, none⟩ = some (.string ac) := (blk_cell ab.out 0).trans rfl; have bc : w3.cell? ⟨aj, 1, none⟩ = some (.int .i64 ad) := (blk_cell ab.out 1).trans rfl; have bd : w3.cell? ⟨aj, 2, none⟩ = some (.int .i64 ai) := (blk_cell ab.out 2).trans rfl; have be : w3.cell? ⟨aj, 3, none⟩ = some (.bool ah) := (blk_cell ab.out 3).trans rfl; have bf : w3.cell? ⟨aj, 4, none⟩ = some (.bool true) := (blk_cell ab.out 4).trans rfl; have bg : w3.cell? ⟨aj, 5, none⟩ = some (.int .i64 af) := (blk_cell ab.out 5).trans rfl; have bh : w3.cell? ⟨aj, 6, none⟩ = some (.int .i64 al) := (blk_cell ab.out 6).trans rfl; have bi : w3.cell? ⟨aj, 7, none⟩ = some (.int .i64 am) := (blk_cell ab.out 7).trans rfl; have bj : w3.cell? ⟨aj, 8, none⟩ = some (.int .i64 ag) := (blk_cell ab.out 8).trans rfl; have bk := blk_frozen ab.out 0; have bl := blk_frozen ab.out 1; have bm := blk_frozen ab.out 2; have bn := blk_frozen ab.out 3; have bo := blk_frozen ab.out 4; have bp := blk_frozen ab.out 5; have bq := blk_frozen ab.out 6; have br := blk_frozen ab.out 7; have bs := blk_frozen ab.out 8))
  go_ret
  exact ⟨by first | rfl | (simp [errW_none, errW_some] <;> rfl) | (simp [*, errW_none, errW_some] <;> rfl), by repeat (first | (with_reducible first | exact HB.out | apply below_alloc | apply pw_below_drewN | apply below_drew1 | refine below_set ?_ aV.out) | exact HB.out)⟩
 ·
  replace c2 := Bool.eq_false_iff.mpr c2
  subst c2
  have H1 : (some false) = some r := by rw [if_neg (show ¬ (false = true) by decide)] at H; exact H
  clear H
  have H := H1
  clear H1
  obtain rfl := Option.some.inj H
  go_enter Try.func31, Try.ntmps31
  go_wp2_with (first | ((with_reducible refine gate_dst (N := 1) rfl ?_); refine box_event ?hg (N := 1) ?hd (cs := #[.string ac, .int .i64 ad, .int .i64 ai, .bool ah, .bool false, .int .i64 af, .int .i64 al, .int .i64 am, .int .i64 ag]) (t := 27) ?hr ?_; (case hd => rfl); (case hg => rfl); (case hr => first | (go_simp; done) | (go_simp; rfl)); intro aj hg w5 hbox hb; have n0_ := Aside0.mk (below_step (by repeat (first | (with_reducible first | exact HB.out | apply below_alloc | apply pw_below_drewN | apply below_drew1) | exact HB.out)) hb); have n1_ := Aside0.mk (hbox); have n2_ := Aside0.mk ((by rw [hg]; exact (below_size (by repeat (first | (with_reducible first | exact HB.out | apply below_alloc | apply pw_below_drewN | apply below_drew1) | exact HB.out))) : w.heap.size ≤ aj)); have n3_ := Aside0.mk ((by rw [hg]; exact (below_size (by repeat (first | (with_reducible first | exact HB.out | apply below_alloc | apply pw_below_drewN | apply below_drew1) | exact HB.out))) : w.heap.size ≤ aj)); clear HB; have HB := n0_; have ab := n1_; have GW106 := n2_; have aV := n3_; clear n0_ n1_ n2_ n3_; clear hb hbox hg; have bt : w5.cell? ⟨aj, 0, none⟩ = some (.string ac) := (blk_cell ab.out 0).trans rfl; have bu : w5.cell? ⟨aj, 1, none⟩ = some (.int .i64 ad) := (blk_cell ab.out 1).trans rfl; have bv : w5.cell? ⟨aj, 2, none⟩ = some (.int .i64 ai) := (blk_cell ab.out 2).trans rfl; have bw : w5.cell? ⟨aj, 3, none⟩ = some (.bool ah) := (blk_cell ab.out 3).trans rfl; have bx : w5.cell? ⟨aj, 4, none⟩ = some (.bool false) := (blk_cell ab.out 4).trans rfl; have bz : w5.cell? ⟨aj, 5, none⟩ = some (.int .i64 af) := (blk_cell ab.out 5).trans rfl; have bA : w5.cell? ⟨aj, 6, none⟩ = some (.int .i64 al) := (blk_cell ab.out 6).trans rfl; have bB : w5.cell? ⟨aj, 7, none⟩ = some (.int .i64 am) := (blk_cell ab.out 7).trans rfl; have bC : w5.cell? ⟨aj, 8, none⟩ = some (.int .i64 ag) := (blk_cell ab.out 8).trans rfl; have bD := blk_frozen ab.out 0; have bE := blk_frozen ab.out 1; have bF := blk_frozen ab.out 2; have bG := blk_frozen ab.out 3; have bH := blk_frozen ab.out 4; have bI := blk_frozen ab.out 5; have bJ := blk_frozen ab.out 6; have bK := blk_frozen ab.out 7; have bL := blk_frozen ab.out 8))
  go_ret
  exact ⟨by first | rfl | (simp [errW_none, errW_some] <;> rfl) | (simp [*, errW_none, errW_some] <;> rfl), by repeat (first | (with_reducible first | exact HB.out | apply below_alloc | apply pw_below_drewN | apply below_drew1 | refine below_set ?_ aV.out) | exact HB.out)⟩
def batonref11_Name.f (a0 : ByteArray) : Option (Bool) := if a0.size ≤ 140737488351232 then some (KP.isName a0.data.toList) else none
theorem batonref11_Name.calls (a0 : ByteArray) (r : Bool) (w : World) (h : batonref11_Name.f a0 = some (r)) :
  Calls Try.prog 94 #[.string a0] w fun e w' => e = .returned (.bool r) ∧ Drawn0 w w' := by
 unfold batonref11_Name.f at h
 split at h
 ·
  rename_i hc
  simp only [Option.some.injEq] at h
  obtain rfl := h
  exact KP.refName_any a0 hc w
 ·
  cases h
def batonref20_wrong.f (a0 : ByteArray) (a1 : ByteArray) (a2 : Int) : Option (Bool) := (batonref11_Name.f a0).bind fun aN => (if aN = true then ((batonref11_Name.f a1).bind fun aG => (if aG = true then (if a2 < 0 then (some true) else (some (decide (a2 > 1125899906842624)))) else (some true))) else (some true))
set_option maxHeartbeats 8000000 in
set_option maxRecDepth 100000 in
theorem batonref20_wrong.calls (a0 : ByteArray) (a1 : ByteArray) (a2 : Int) (r : Bool) (w : World) (h : batonref20_wrong.f a0 a1 a2 = some r) :
  Calls Try.prog 109 #[.string a0, .string a1, .int .i64 a2] w fun e w' => e = .returned (.bool r) ∧ Drawn0 w w' := by
 have H : ((batonref11_Name.f a0).bind fun aN => (if aN = true then ((batonref11_Name.f a1).bind fun aG => (if aG = true then (if a2 < 0 then (some true) else (some (decide (a2 > 1125899906842624)))) else (some true))) else (some true))) = some r := h
 clear h
 replace H := Option.bind_eq_some_iff.mp H
 obtain ⟨aN, A40, H⟩ := H
 replace H : (if aN = true then ((batonref11_Name.f a1).bind fun aG => (if aG = true then (if a2 < 0 then (some true) else (some (decide (a2 > 1125899906842624)))) else (some true))) else (some true)) = some r := H
 have A4 := Aside0.mk A40
 clear A40
 by_cases c5 : aN = true
 ·
  subst c5
  have H1 : ((batonref11_Name.f a1).bind fun aG => (if aG = true then (if a2 < 0 then (some true) else (some (decide (a2 > 1125899906842624)))) else (some true))) = some r := by rw [if_pos rfl] at H; exact H
  clear H
  have H := H1
  clear H1
  replace H := Option.bind_eq_some_iff.mp H
  obtain ⟨aG, A60, H⟩ := H
  replace H : (if aG = true then (if a2 < 0 then (some true) else (some (decide (a2 > 1125899906842624)))) else (some true)) = some r := H
  have A6 := Aside0.mk A60
  clear A60
  by_cases c7 : aG = true
  ·
   subst c7
   have H1 : (if a2 < 0 then (some true) else (some (decide (a2 > 1125899906842624)))) = some r := by rw [if_pos rfl] at H; exact H
   clear H
   have H := H1
   clear H1
   by_cases c8 : a2 < 0
   ·
    rw [if_pos c8] at H
    have c8b0 : decide (a2 < 0) = true := decide_eq_true c8
    clear c8
    obtain rfl := Option.some.inj H
    go_enter Try.func109, Try.ntmps109
    go_wp2_with (first | ((with_reducible refine gate_callee (f := 94) rfl ?_); refine goesL_ (some 8) rfl rfl Try.func94 (by kernel_rfl) rfl #[.string a0] rfl (by (try simp only [List.map_toArray, List.map_cons, List.map_nil]); first | done | rfl | (simp only [List.length_drop, List.length_take]; rfl)) ?_; (with_reducible refine (batonref11_Name.calls a0 true _ A4.out).mono ?_); rintro e w' ⟨rfl, ⟨nd, rfl⟩⟩; refine ⟨_, rfl, ?_⟩) | (go_at_call 94; (with_reducible refine (batonref11_Name.calls a1 true _ A6.out).mono ?_); rintro e w' ⟨rfl, ⟨nd, rfl⟩⟩))
    go_ret
    exact ⟨by first | rfl | (simp; done) | (simp [*]; done), by repeat (first | exact Drawn0.refl _ | apply Drawn0.step)⟩
   ·
    rw [if_neg c8] at H
    have c8b0 : decide (a2 < 0) = false := decide_eq_false c8
    clear c8
    obtain rfl := Option.some.inj H
    go_enter Try.func109, Try.ntmps109
    go_wp2_with (first | ((with_reducible refine gate_callee (f := 94) rfl ?_); refine goesL_ (some 8) rfl rfl Try.func94 (by kernel_rfl) rfl #[.string a0] rfl (by (try simp only [List.map_toArray, List.map_cons, List.map_nil]); first | done | rfl | (simp only [List.length_drop, List.length_take]; rfl)) ?_; (with_reducible refine (batonref11_Name.calls a0 true _ A4.out).mono ?_); rintro e w' ⟨rfl, ⟨nd, rfl⟩⟩; refine ⟨_, rfl, ?_⟩) | (go_at_call 94; (with_reducible refine (batonref11_Name.calls a1 true _ A6.out).mono ?_); rintro e w' ⟨rfl, ⟨nd, rfl⟩⟩))
    go_ret
    exact ⟨by first | rfl | (simp; done) | (simp [*]; done), by repeat (first | exact Drawn0.refl _ | apply Drawn0.step)⟩
  ·
   replace c7 := Bool.eq_false_iff.mpr c7
   subst c7
   have H1 : (some true) = some r := by rw [if_neg (show ¬ (false = true) by decide)] at H; exact H
   clear H
   have H := H1
   clear H1
   obtain rfl := Option.some.inj H
   go_enter Try.func109, Try.ntmps109
   go_wp2_with (first | ((with_reducible refine gate_callee (f := 94) rfl ?_); refine goesL_ (some 8) rfl rfl Try.func94 (by kernel_rfl) rfl #[.string a0] rfl (by (try simp only [List.map_toArray, List.map_cons, List.map_nil]); first | done | rfl | (simp only [List.length_drop, List.length_take]; rfl)) ?_; (with_reducible refine (batonref11_Name.calls a0 true _ A4.out).mono ?_); rintro e w' ⟨rfl, ⟨nd, rfl⟩⟩; refine ⟨_, rfl, ?_⟩) | (go_at_call 94; (with_reducible refine (batonref11_Name.calls a1 false _ A6.out).mono ?_); rintro e w' ⟨rfl, ⟨nd, rfl⟩⟩))
   go_ret
   exact ⟨by first | rfl | (simp; done) | (simp [*]; done), by repeat (first | exact Drawn0.refl _ | apply Drawn0.step)⟩
 ·
  replace c5 := Bool.eq_false_iff.mpr c5
  subst c5
  have H1 : (some true) = some r := by rw [if_neg (show ¬ (false = true) by decide)] at H; exact H
  clear H
  have H := H1
  clear H1
  obtain rfl := Option.some.inj H
  go_enter Try.func109, Try.ntmps109
  go_wp2_with (first | ((with_reducible refine gate_callee (f := 94) rfl ?_); refine goesL_ (some 8) rfl rfl Try.func94 (by kernel_rfl) rfl #[.string a0] rfl (by (try simp only [List.map_toArray, List.map_cons, List.map_nil]); first | done | rfl | (simp only [List.length_drop, List.length_take]; rfl)) ?_; (with_reducible refine (batonref11_Name.calls a0 false _ A4.out).mono ?_); rintro e w' ⟨rfl, ⟨nd, rfl⟩⟩; refine ⟨_, rfl, ?_⟩))
  go_ret
  exact ⟨by first | rfl | (simp; done) | (simp [*]; done), by repeat (first | exact Drawn0.refl _ | apply Drawn0.step)⟩
def batonref11_Cluster.f (a0 : ByteArray) (a1 : ByteArray) : Option (ByteArray) := if a0.size ≤ 140737488351232 ∧ a1.size ≤ 140737488351232 then some ((⟨(KP.clusterK a0.data.toList a1.data.toList).toArray⟩ : ByteArray)) else none
theorem batonref11_Cluster.calls (a0 : ByteArray) (a1 : ByteArray) (r : ByteArray) (w : World) (h : batonref11_Cluster.f a0 a1 = some (r)) :
  Calls Try.prog 95 #[.string a0, .string a1] w fun e w' => e = .returned (.string r) ∧ Drawn0 w w' := by
 unfold batonref11_Cluster.f at h
 split at h
 ·
  rename_i hc
  simp only [Option.some.injEq] at h
  obtain rfl := h
  exact KP.refCluster_any a0 a1 hc.1 hc.2 w
 ·
  cases h
def batonref11_Tenant.f (a0 : ByteArray) : Option (ByteArray) := if a0.size ≤ 140737488351232 then some ((⟨(KP.tenantK a0.data.toList).toArray⟩ : ByteArray)) else none
theorem batonref11_Tenant.calls (a0 : ByteArray) (r : ByteArray) (w : World) (h : batonref11_Tenant.f a0 = some (r)) :
  Calls Try.prog 96 #[.string a0] w fun e w' => e = .returned (.string r) ∧ Drawn0 w w' := by
 unfold batonref11_Tenant.f at h
 split at h
 ·
  rename_i hc
  simp only [Option.some.injEq] at h
  obtain rfl := h
  exact KP.refTenant_any a0 hc w
 ·
  cases h
def batonref20_conds.f (ac : ByteArray) (ad : Int) (ai : Int) (ah : Bool) (ao : Bool) (af : Int) (al : Int) (am : Int) (ag : Int) (a1 : ByteArray) (a2 : ByteArray) (a3 : Bool) : Option ((List (S73))) := (batonref11_Cluster.f a1 a2).bind fun ap => ((some (([(⟨ap, af⟩ : S73)] : List (S73)) : List (S73))).bind fun ak => (if a3 = true then ((batonref11_Tenant.f a1).bind fun aq => (if ak.length < 5864062014805 then (some (ak ++ [(⟨aq, ag⟩ : S73)])) else (none))) else (some ak)))
def batonref20_conds.T1 : Bool × List (List Nat × List Nat) := (true, [([], []), ([], []), ([0, 1], [0, 1]), ([], []), ([3], [3]), ([2, 4], [2, 4]), ([5], [5]), ([6, 2, 0, 1, 2, 3, 4, 5, 6], [6])])
def batonref20_conds.B1 : List Nat := [0, 0, 3, 0, 8, 31, 63, 127]
theorem batonref20_conds.tab1 : rtab .any (opsOf Try.f110 1) = batonref20_conds.T1 := by kernel_rfl
theorem batonref20_conds.bits1 : waitsOk batonref20_conds.T1.2 batonref20_conds.B1 = true := by kernel_rfl
def batonref20_conds.T3 : Bool × List (List Nat × List Nat) := (true, [([], []), ([], []), ([1], [1]), ([], []), ([3], [3]), ([2, 4], [2, 4]), ([5], [5]), ([0, 6, 2], [0, 6]), ([7, 7, 0, 1, 2, 3, 4, 5, 6, 7], [0, 7])])
def batonref20_conds.B3 : List Nat := [0, 0, 2, 0, 8, 30, 62, 127, 255]
theorem batonref20_conds.tab3 : rtab .any (opsOf Try.f110 3) = batonref20_conds.T3 := by kernel_rfl
theorem batonref20_conds.bits3 : waitsOk batonref20_conds.T3.2 batonref20_conds.B3 = true := by kernel_rfl
set_option maxHeartbeats 8000000 in
set_option maxRecDepth 100000 in
theorem batonref20_conds.calls (ac : ByteArray) (ad : Int) (ai : Int) (ah : Bool) (ao : Bool) (af : Int) (al : Int) (am : Int) (ag : Int) (a1 : ByteArray) (a2 : ByteArray) (a3 : Bool) (r : List (S73)) (w : World) (h : batonref20_conds.f ac ad ai ah ao af al am ag a1 a2 a3 = some r) :
  Calls Try.prog 110 #[.agg #[.string ac, .int .i64 ad, .int .i64 ai, .bool ah, .bool ao, .int .i64 af, .int .i64 al, .int .i64 am, .int .i64 ag], .string a1, .string a2, .bool a3] w fun e w' => ∃ v0_ : Value, e = .returned (v0_) ∧ Kd.R k73 73 w' w.heap.size (fun _ => True) v0_ r ∧ Below w.heap.size w w' := by
 have hu27 := Try.underlying27
 have hu73 := Try.underlying73
 have HB := Aside0.mk (Below.refl w.heap.size w)
 have H : ((batonref11_Cluster.f a1 a2).bind fun ap => ((some (([(⟨ap, af⟩ : S73)] : List (S73)) : List (S73))).bind fun ak => (if a3 = true then ((batonref11_Tenant.f a1).bind fun aq => (if ak.length < 5864062014805 then (some (ak ++ [(⟨aq, ag⟩ : S73)])) else (none))) else (some ak)))) = some r := h
 clear h
 replace H := Option.bind_eq_some_iff.mp H
 obtain ⟨ap, A50, H⟩ := H
 replace H : ((some (([(⟨ap, af⟩ : S73)] : List (S73)) : List (S73))).bind fun ak => (if a3 = true then ((batonref11_Tenant.f a1).bind fun aq => (if ak.length < 5864062014805 then (some (ak ++ [(⟨aq, ag⟩ : S73)])) else (none))) else (some ak))) = some r := H
 have A5 := Aside0.mk A50
 clear A50
 obtain ⟨ak, hy111⟩ : ∃ y_ : List (S73), y_ = (([(⟨ap, af⟩ : S73)] : List (S73))) := ⟨_, rfl⟩
 replace H : (if a3 = true then ((batonref11_Tenant.f a1).bind fun aq => (if ak.length < 5864062014805 then (some (ak ++ [(⟨aq, ag⟩ : S73)])) else (none))) else (some ak)) = some r := by first | (rw [hy111]; with_reducible exact H) | (have H2_ := (Option.bind_some _ _).symm.trans H; rw [hy111]; with_reducible exact H2_) | (have H2_ := (Option.bind_some _ _).symm.trans H; with_reducible exact H2_) | with_reducible exact H | (rw [hy111]; exact H) | exact H
 have Ny111 := Aside0.mk hy111
 clear hy111
 by_cases c6 : a3 = true
 ·
  subst c6
  have H1 : ((batonref11_Tenant.f a1).bind fun aq => (if ak.length < 5864062014805 then (some (ak ++ [(⟨aq, ag⟩ : S73)])) else (none))) = some r := by rw [if_pos rfl] at H; exact H
  clear H
  have H := H1
  clear H1
  replace H := Option.bind_eq_some_iff.mp H
  obtain ⟨aq, A70, H⟩ := H
  replace H : (if ak.length < 5864062014805 then (some (ak ++ [(⟨aq, ag⟩ : S73)])) else (none)) = some r := H
  have A7 := Aside0.mk A70
  clear A70
  by_cases c8 : ak.length < 5864062014805
  ·
   rw [if_pos c8] at H
   have LMc8 := Aside0.mk c8
   clear c8
   obtain ⟨a4, hy115⟩ : ∃ y_ : List (S73), y_ = (ak ++ [(⟨aq, ag⟩ : S73)]) := ⟨_, rfl⟩
   replace H : (some a4) = some r := by first | (rw [hy115]; with_reducible exact H) | (have H2_ := (Option.bind_some _ _).symm.trans H; rw [hy115]; with_reducible exact H2_) | (have H2_ := (Option.bind_some _ _).symm.trans H; with_reducible exact H2_) | with_reducible exact H | (rw [hy115]; exact H) | exact H
   have Ny115 := Aside0.mk hy115
   clear hy115
   obtain rfl := Option.some.inj H
   go_enter Try.func110, Try.ntmps110
   try go_wp2_with (first | ((with_reducible refine gate_dst (N := 4) rfl ?_); refine box_event ?hg (N := 4) ?hd (cs := #[.string ac, .int .i64 ad, .int .i64 ai, .bool ah, .bool ao, .int .i64 af, .int .i64 al, .int .i64 am, .int .i64 ag]) (t := 27) ?hr ?_; (case hd => rfl); (case hg => rfl); (case hr => first | (go_simp; done) | (go_simp; rfl)); intro ae hg w9 hbox hb; have n0_ := Aside0.mk (below_step (by repeat (first | (with_reducible first | exact HB.out | apply below_alloc | apply pw_below_drewN | apply below_drew1) | exact HB.out)) hb); have n1_ := Aside0.mk (hbox); have n2_ := Aside0.mk ((by rw [hg]; exact (below_size (by repeat (first | (with_reducible first | exact HB.out | apply below_alloc | apply pw_below_drewN | apply below_drew1) | exact HB.out))) : w.heap.size ≤ ae)); have n3_ := Aside0.mk ((by rw [hg]; exact (below_size (by repeat (first | (with_reducible first | exact HB.out | apply below_alloc | apply pw_below_drewN | apply below_drew1) | exact HB.out))) : w.heap.size ≤ ae)); clear HB; have HB := n0_; have aa := n1_; have GW109 := n2_; have aM := n3_; clear n0_ n1_ n2_ n3_; clear hb hbox hg))
   have n0_ := Aside0.mk (blk_drew aa.out)
   have n1_ := Aside0.mk (below_drew1 HB.out)
   clear aa
   clear HB
   have aa := n0_
   have HB := n1_
   clear n0_ n1_
   refine start_ (n := 8) (S := fun w' => w'.cell? ⟨ae, 0, none⟩ = some (.string ac) ∧ w'.cell? ⟨ae, 1, none⟩ = some (.int .i64 ad) ∧ w'.cell? ⟨ae, 2, none⟩ = some (.int .i64 ai) ∧ w'.cell? ⟨ae, 3, none⟩ = some (.bool ah) ∧ w'.cell? ⟨ae, 4, none⟩ = some (.bool ao) ∧ w'.cell? ⟨ae, 5, none⟩ = some (.int .i64 af) ∧ w'.cell? ⟨ae, 6, none⟩ = some (.int .i64 al) ∧ w'.cell? ⟨ae, 7, none⟩ = some (.int .i64 am) ∧ w'.cell? ⟨ae, 8, none⟩ = some (.int .i64 ag)) (ds := []) #[false, false, false, false, false, false, false, false] (by kernel_rfl) rfl rfl ⟨(blk_cell aa.out 0).trans rfl, (blk_cell aa.out 1).trans rfl, (blk_cell aa.out 2).trans rfl, (blk_cell aa.out 3).trans rfl, (blk_cell aa.out 4).trans rfl, (blk_cell aa.out 5).trans rfl, (blk_cell aa.out 6).trans rfl, (blk_cell aa.out 7).trans rfl, (blk_cell aa.out 8).trans rfl⟩ (fun hHeld => ?_); refine with_tabW batonref20_conds.tab1 batonref20_conds.bits1 (fun HT_ HW_ => ?_)
   generalize w9.drew = w10 at aa HB hHeld ⊢
   refine pure_ (i := 0) (N := some 10) (v := ?_) (a' := ?_) #[true, false, false, false, false, false, false, false] rfl rfl (any_of HT_.out (by kernel_rfl)) (fun _ _ _ h => h) (Or.inl ⟨by rfl, ?_⟩) ?_ ?_
   rotate_left
   ·
    intro w'
    go_simp
    with_reducible rfl
   rotate_left
   ·
    simp only [Act.put, List.setIfInBounds_toArray, List.set_cons_zero, List.set_cons_succ, i64_w, i32_w]
    rfl
   refine pure_ (i := 1) (N := some 11) (v := ?_) (a' := ?_) #[true, true, false, false, false, false, false, false] rfl rfl (any_of HT_.out (by kernel_rfl)) (fun _ _ _ h => h) (Or.inl ⟨by rfl, ?_⟩) ?_ ?_
   rotate_left
   ·
    intro w'
    go_simp
    with_reducible rfl
   rotate_left
   ·
    simp only [Act.put, List.setIfInBounds_toArray, List.set_cons_zero, List.set_cons_succ, i64_w, i32_w]
    rfl
   refine pure_ (i := 3) (N := some 13) (v := ?_) (a' := ?_) #[true, true, false, true, false, false, false, false] rfl rfl (any_of HT_.out (by kernel_rfl)) (fun _ _ _ h => h) (Or.inl ⟨by rfl, ?_⟩) ?_ ?_
   rotate_left
   ·
    intro w'
    go_simp
    with_reducible rfl
   rotate_left
   ·
    simp only [Act.put, List.setIfInBounds_toArray, List.set_cons_zero, List.set_cons_succ, i64_w, i32_w]
    rfl
   refine take_ (i := 4) (N := some 14) (v := ?_) (a' := ?_) #[true, true, false, true, true, false, false, false] rfl rfl (take_ofW HT_.out HW_.out (by kernel_rfl)) (fun _ _ _ h => h) (Or.inl ⟨by rfl, ?_⟩) hHeld ?_ ?_
   rotate_left
   ·
    rintro w' ⟨s0, s1, s2, s3, s4, s5, s6, s7, s8⟩
    go_simp
    with_reducible rfl
   rotate_left
   ·
    simp only [Act.put, List.setIfInBounds_toArray, List.set_cons_zero, List.set_cons_succ, i64_w, i32_w]
    rfl
   refine one_ (i := 2) (N := some 12) #[true, true, true, true, true, false, false, false] rfl rfl (one_of HT_.out (by kernel_rfl)) (by decide) (fun K hK => ?_)
   refine goes_ Try.func95 (by kernel_rfl) rfl #[.string a1, .string a2] (by rfl) rfl rfl (by (try simp only [List.map_toArray, List.map_cons, List.map_nil]); first | done | rfl | (simp only [List.length_drop, List.length_take]; rfl)) ?_
   with_reducible refine (batonref11_Cluster.calls a1 a2 ap _ A5.out).mono ?_
   rintro e w' ⟨rfl, ⟨nd, rfl⟩⟩
   refine ⟨_, rfl, ?_⟩
   refine hK.out _ _ ⟨(blk_cell aa.out 0).trans rfl, (blk_cell aa.out 1).trans rfl, (blk_cell aa.out 2).trans rfl, (blk_cell aa.out 3).trans rfl, (blk_cell aa.out 4).trans rfl, (blk_cell aa.out 5).trans rfl, (blk_cell aa.out 6).trans rfl, (blk_cell aa.out 7).trans rfl, (blk_cell aa.out 8).trans rfl⟩ (fun hHeld => ?_)
   clear hK K
   refine norm_ (a' := ?_) ?_ ?_
   rotate_left
   ·
    show Act.put _ (some 12) _ = _
    simp only [Act.put, List.setIfInBounds_toArray, List.set_cons_zero, List.set_cons_succ, i64_w, i32_w]
    rfl
   refine pure_ (i := 5) (N := some 15) (v := ?_) (a' := ?_) #[true, true, true, true, true, true, false, false] rfl rfl (any_of HT_.out (by kernel_rfl)) (fun _ _ _ h => h) (Or.inl ⟨by rfl, ?_⟩) ?_ ?_
   rotate_left
   ·
    intro w'
    go_simp
    with_reducible rfl
   rotate_left
   ·
    simp only [Act.put, List.setIfInBounds_toArray, List.set_cons_zero, List.set_cons_succ, i64_w, i32_w]
    rfl
   refine one_ (i := 6) (N := some 16) #[true, true, true, true, true, true, true, false] rfl rfl (one_of HT_.out (by kernel_rfl)) (by decide) (fun K hK => ?_)
   refine Kd.R_lit_step k73 _ 73 ?hg (N := 16) ?hd (xs := ([(⟨ap, af⟩ : S73)] : List (S73))) (inner := [.string ap, .int .i64 af]) (ok := fun _ => True) (okp := fun _ => True) ?hr ?hp (fun _ hk => hk) trivial (Below.refl _ _) (Nat.le_refl _) (by simp) ?_; (case hd => rfl); (case hg => rfl); (case hr => first | (go_simp; done) | (go_simp; rfl)); (case hp => exact (Reps.c2 (show Kd.M k73 _ _ _ (⟨ap, af⟩ : S73) [.string ap, .int .i64 af] from (k73_mkM _ _ _ (⟨ap, af⟩ : S73) )) (Reps.none _ _)))
   intro v112 w11 ho12 hb hg_ hnew_
   clear hg_ hnew_
   (first | rw [← Ny111.out] at ho12 | (simp only [Int.reduceToNat] at ho12; rw [← Ny111.out] at ho12))
   have n0_ := Aside0.mk (Kd.R_lower ho12 (below_size (by repeat (first | (with_reducible first | exact HB.out | apply below_alloc | apply pw_below_drewN | apply below_drew1 | refine below_set ?_ aM.out) | exact HB.out))))
   have n1_ := Aside0.mk (blk_below (g := ae) (o := .cells #[.string ac, .int .i64 ad, .int .i64 ai, .bool ah, .bool ao, .int .i64 af, .int .i64 al, .int .i64 am, .int .i64 ag] 27 (0, 0)) (by (with_reducible repeat (first | refine blk_drewN ?_ _ | refine blk_drew ?_ | refine blk_alloc ?_ _)); exact aa.out) hb)
   have n2_ := Aside0.mk (below_step (by repeat (first | (with_reducible first | exact HB.out | apply below_alloc | apply pw_below_drewN | apply below_drew1 | refine below_set ?_ aM.out) | exact HB.out)) hb)
   clear aa
   clear HB
   have HO113 := n0_
   have aa := n1_
   have HB := n2_
   clear n0_ n1_ n2_
   clear hb ho12
   refine hK.out _ _ ⟨(blk_cell aa.out 0).trans rfl, (blk_cell aa.out 1).trans rfl, (blk_cell aa.out 2).trans rfl, (blk_cell aa.out 3).trans rfl, (blk_cell aa.out 4).trans rfl, (blk_cell aa.out 5).trans rfl, (blk_cell aa.out 6).trans rfl, (blk_cell aa.out 7).trans rfl, (blk_cell aa.out 8).trans rfl⟩ (fun hHeld => ?_)
   clear hK K
   refine norm_ (a' := ?_) ?_ ?_
   rotate_left
   ·
    show Act.put _ (some 16) _ = _
    simp only [Act.put, List.setIfInBounds_toArray, List.set_cons_zero, List.set_cons_succ, i64_w, i32_w]
    rfl
   refine pure_ (i := 7) (N := some 9) (v := ?_) (a' := ?_) #[true, true, true, true, true, true, true, true] rfl rfl (any_of HT_.out (by kernel_rfl)) (fun _ _ _ h => h) (Or.inl ⟨by rfl, ?_⟩) ?_ ?_
   rotate_left
   ·
    intro w'
    go_simp
    with_reducible rfl
   rotate_left
   ·
    simp only [Act.put, List.setIfInBounds_toArray, List.set_cons_zero, List.set_cons_succ, i64_w, i32_w]
    rfl
   refine done_ (done_of HT_.out (by kernel_rfl)) ?_
   try go_wp2
   have n0_ := Aside0.mk (Kd.R_drew HO113.out)
   have n1_ := Aside0.mk (blk_drew aa.out)
   have n2_ := Aside0.mk (below_drew1 HB.out)
   clear HO113
   clear aa
   clear HB
   have HO113 := n0_
   have aa := n1_
   have HB := n2_
   clear n0_ n1_ n2_
   refine start_ (n := 9) (S := fun w' => w'.cell? ⟨ae, 0, none⟩ = some (.string ac) ∧ w'.cell? ⟨ae, 1, none⟩ = some (.int .i64 ad) ∧ w'.cell? ⟨ae, 2, none⟩ = some (.int .i64 ai) ∧ w'.cell? ⟨ae, 3, none⟩ = some (.bool ah) ∧ w'.cell? ⟨ae, 4, none⟩ = some (.bool ao) ∧ w'.cell? ⟨ae, 5, none⟩ = some (.int .i64 af) ∧ w'.cell? ⟨ae, 6, none⟩ = some (.int .i64 al) ∧ w'.cell? ⟨ae, 7, none⟩ = some (.int .i64 am) ∧ w'.cell? ⟨ae, 8, none⟩ = some (.int .i64 ag)) (ds := []) #[false, false, false, false, false, false, false, false, false] (by kernel_rfl) rfl rfl ⟨(blk_cell aa.out 0).trans rfl, (blk_cell aa.out 1).trans rfl, (blk_cell aa.out 2).trans rfl, (blk_cell aa.out 3).trans rfl, (blk_cell aa.out 4).trans rfl, (blk_cell aa.out 5).trans rfl, (blk_cell aa.out 6).trans rfl, (blk_cell aa.out 7).trans rfl, (blk_cell aa.out 8).trans rfl⟩ (fun hHeld => ?_); refine with_tabW batonref20_conds.tab3 batonref20_conds.bits3 (fun HT_ HW_ => ?_)
   generalize w11.drew = w13 at HO113 aa HB hHeld ⊢
   refine pure_ (i := 0) (N := some 18) (v := ?_) (a' := ?_) #[true, false, false, false, false, false, false, false, false] rfl rfl (any_of HT_.out (by kernel_rfl)) (fun _ _ _ h => h) (Or.inl ⟨by rfl, ?_⟩) ?_ ?_
   rotate_left
   ·
    intro w'
    go_simp
    with_reducible rfl
   rotate_left
   ·
    simp only [Act.put, List.setIfInBounds_toArray, List.set_cons_zero, List.set_cons_succ, i64_w, i32_w]
    rfl
   refine pure_ (i := 1) (N := some 19) (v := ?_) (a' := ?_) #[true, true, false, false, false, false, false, false, false] rfl rfl (any_of HT_.out (by kernel_rfl)) (fun _ _ _ h => h) (Or.inl ⟨by rfl, ?_⟩) ?_ ?_
   rotate_left
   ·
    intro w'
    go_simp
    with_reducible rfl
   rotate_left
   ·
    simp only [Act.put, List.setIfInBounds_toArray, List.set_cons_zero, List.set_cons_succ, i64_w, i32_w]
    rfl
   refine pure_ (i := 3) (N := some 21) (v := ?_) (a' := ?_) #[true, true, false, true, false, false, false, false, false] rfl rfl (any_of HT_.out (by kernel_rfl)) (fun _ _ _ h => h) (Or.inl ⟨by rfl, ?_⟩) ?_ ?_
   rotate_left
   ·
    intro w'
    go_simp
    with_reducible rfl
   rotate_left
   ·
    simp only [Act.put, List.setIfInBounds_toArray, List.set_cons_zero, List.set_cons_succ, i64_w, i32_w]
    rfl
   refine take_ (i := 4) (N := some 22) (v := ?_) (a' := ?_) #[true, true, false, true, true, false, false, false, false] rfl rfl (take_ofW HT_.out HW_.out (by kernel_rfl)) (fun _ _ _ h => h) (Or.inl ⟨by rfl, ?_⟩) hHeld ?_ ?_
   rotate_left
   ·
    rintro w' ⟨s0, s1, s2, s3, s4, s5, s6, s7, s8⟩
    go_simp
    with_reducible rfl
   rotate_left
   ·
    simp only [Act.put, List.setIfInBounds_toArray, List.set_cons_zero, List.set_cons_succ, i64_w, i32_w]
    rfl
   refine one_ (i := 2) (N := some 20) #[true, true, true, true, true, false, false, false, false] rfl rfl (one_of HT_.out (by kernel_rfl)) (by decide) (fun K hK => ?_)
   refine goes_ Try.func96 (by kernel_rfl) rfl #[.string a1] (by rfl) rfl rfl (by (try simp only [List.map_toArray, List.map_cons, List.map_nil]); first | done | rfl | (simp only [List.length_drop, List.length_take]; rfl)) ?_
   with_reducible refine (batonref11_Tenant.calls a1 aq _ A7.out).mono ?_
   rintro e w' ⟨rfl, ⟨nd, rfl⟩⟩
   refine ⟨_, rfl, ?_⟩
   refine hK.out _ _ ⟨(blk_cell aa.out 0).trans rfl, (blk_cell aa.out 1).trans rfl, (blk_cell aa.out 2).trans rfl, (blk_cell aa.out 3).trans rfl, (blk_cell aa.out 4).trans rfl, (blk_cell aa.out 5).trans rfl, (blk_cell aa.out 6).trans rfl, (blk_cell aa.out 7).trans rfl, (blk_cell aa.out 8).trans rfl⟩ (fun hHeld => ?_)
   clear hK K
   refine norm_ (a' := ?_) ?_ ?_
   rotate_left
   ·
    show Act.put _ (some 20) _ = _
    simp only [Act.put, List.setIfInBounds_toArray, List.set_cons_zero, List.set_cons_succ, i64_w, i32_w]
    rfl
   refine pure_ (i := 5) (N := some 23) (v := ?_) (a' := ?_) #[true, true, true, true, true, true, false, false, false] rfl rfl (any_of HT_.out (by kernel_rfl)) (fun _ _ _ h => h) (Or.inl ⟨by rfl, ?_⟩) ?_ ?_
   rotate_left
   ·
    intro w'
    go_simp
    with_reducible rfl
   rotate_left
   ·
    simp only [Act.put, List.setIfInBounds_toArray, List.set_cons_zero, List.set_cons_succ, i64_w, i32_w]
    rfl
   refine one_ (i := 6) (N := some 24) #[true, true, true, true, true, true, true, false, false] rfl rfl (one_of HT_.out (by kernel_rfl)) (by decide) (fun K hK => ?_)
   refine value_ (w1 := ?_) (v := ?_) (by rfl) rfl ?_ ?_
   rotate_left 2
   ·
    go_simp
    constructor
    ·
     rfl
    ·
     rfl
   refine hK.out _ _ ⟨(blk_cell (blk_alloc aa.out _) 0).trans rfl, (blk_cell (blk_alloc aa.out _) 1).trans rfl, (blk_cell (blk_alloc aa.out _) 2).trans rfl, (blk_cell (blk_alloc aa.out _) 3).trans rfl, (blk_cell (blk_alloc aa.out _) 4).trans rfl, (blk_cell (blk_alloc aa.out _) 5).trans rfl, (blk_cell (blk_alloc aa.out _) 6).trans rfl, (blk_cell (blk_alloc aa.out _) 7).trans rfl, (blk_cell (blk_alloc aa.out _) 8).trans rfl⟩ (fun hHeld => ?_)
   clear hK K
   refine norm_ (a' := ?_) ?_ ?_
   rotate_left
   ·
    show Act.put _ (some 24) _ = _
    simp only [Act.put, List.setIfInBounds_toArray, List.set_cons_zero, List.set_cons_succ, i64_w, i32_w]
    rfl
   refine one_ (i := 7) (N := some 25) #[true, true, true, true, true, true, true, true, false] rfl rfl (one_of HT_.out (by kernel_rfl)) (by decide) (fun K hK => ?_)
   refine Kd.R_append_step k73 (w0 := w) w.heap.size (by rfl) (.tmp 18) (.tmp 24) 31 73 (.agg #[(.string ⟨#[]⟩), (.int .i64 0)]) 24 rfl Try.underlying31 info73 rfl (by decide) (by omega) v112 ak (⟨aq, ag⟩ : S73) [.string aq, .int .i64 ag] (fun _ => True) (fun _ => False) rfl rfl ?aP (fun _ hk => hk.elim) ?aF ?aO ?aB ?aS ?aL ?_
   (case aP => exact k73_mkM _ _ _ (⟨aq, ag⟩ : S73))
   (case aB => exact (by repeat (first | (with_reducible first | exact HB.out | apply below_alloc | apply pw_below_drewN | apply below_drew1 | refine below_set ?_ aM.out) | exact HB.out)))
   (case aF => exact (fun _ _ => trivial))
   (case aO => exact (by (with_reducible repeat (first | apply Kd.R_alloc | apply Kd.R_drewN | apply Kd.R_drew)); exact HO113.out))
   (case aS => exact (below_size (by repeat (first | (with_reducible first | exact HB.out | apply below_alloc | apply pw_below_drewN | apply below_drew1 | refine below_set ?_ aM.out) | exact HB.out))))
   (case aL => have := LMc8.out; omega)
   intro v116 w14 ho hb hg hat
   rw [← Ny115.out] at ho
   have n0_ := Aside0.mk (blk_grown (g := ae) (o := .cells #[.string ac, .int .i64 ad, .int .i64 ai, .bool ah, .bool ao, .int .i64 af, .int .i64 al, .int .i64 am, .int .i64 ag] 27 (0, 0)) (by (with_reducible repeat (first | refine blk_drewN ?_ _ | refine blk_drew ?_ | refine blk_alloc ?_ _)); exact aa.out) hg (Kd.R_ne HO113.out aa.out (by decide)))
   have n1_ := Aside0.mk (hb)
   have n2_ := Aside0.mk (ho)
   clear aa
   clear HB
   clear HO113
   have aa := n0_
   have HB := n1_
   have HO117 := n2_
   clear n0_ n1_ n2_
   clear ho hb hg hat
   refine hK.out _ _ ⟨(blk_cell aa.out 0).trans rfl, (blk_cell aa.out 1).trans rfl, (blk_cell aa.out 2).trans rfl, (blk_cell aa.out 3).trans rfl, (blk_cell aa.out 4).trans rfl, (blk_cell aa.out 5).trans rfl, (blk_cell aa.out 6).trans rfl, (blk_cell aa.out 7).trans rfl, (blk_cell aa.out 8).trans rfl⟩ (fun hHeld => ?_)
   clear hK K
   refine norm_ (a' := ?_) ?_ ?_
   rotate_left
   ·
    show Act.put _ (some 25) _ = _
    simp only [Act.put, List.setIfInBounds_toArray, List.set_cons_zero, List.set_cons_succ, i64_w, i32_w]
    rfl
   refine pure_ (i := 8) (N := some 9) (v := ?_) (a' := ?_) #[true, true, true, true, true, true, true, true, true] rfl rfl (any_of HT_.out (by kernel_rfl)) (fun _ _ _ h => h) (Or.inl ⟨by rfl, ?_⟩) ?_ ?_
   rotate_left
   ·
    intro w'
    go_simp
    with_reducible rfl
   rotate_left
   ·
    simp only [Act.put, List.setIfInBounds_toArray, List.set_cons_zero, List.set_cons_succ, i64_w, i32_w]
    rfl
   refine done_ (done_of HT_.out (by kernel_rfl)) ?_
   try go_wp2
   go_ret
   exact ⟨_, by first | rfl | (simp [errW_none, errW_some] <;> rfl) | (simp [*, errW_none, errW_some] <;> rfl), by (with_reducible repeat (first | apply Kd.R_alloc | apply Kd.R_drewN | apply Kd.R_drew)); exact HO117.out, by repeat (first | (with_reducible first | exact HB.out | apply below_alloc | apply pw_below_drewN | apply below_drew1 | refine below_set ?_ aM.out) | exact HB.out)⟩
  ·
   rw [if_neg c8] at H
   exact absurd H (by simp)
 ·
  replace c6 := Bool.eq_false_iff.mpr c6
  subst c6
  have H1 : (some ak) = some r := by rw [if_neg (show ¬ (false = true) by decide)] at H; exact H
  clear H
  have H := H1
  clear H1
  obtain rfl := Option.some.inj H
  go_enter Try.func110, Try.ntmps110
  try go_wp2_with (first | ((with_reducible refine gate_dst (N := 4) rfl ?_); refine box_event ?hg (N := 4) ?hd (cs := #[.string ac, .int .i64 ad, .int .i64 ai, .bool ah, .bool ao, .int .i64 af, .int .i64 al, .int .i64 am, .int .i64 ag]) (t := 27) ?hr ?_; (case hd => rfl); (case hg => rfl); (case hr => first | (go_simp; done) | (go_simp; rfl)); intro ae hg w15 hbox hb; have n0_ := Aside0.mk (below_step (by repeat (first | (with_reducible first | exact HB.out | apply below_alloc | apply pw_below_drewN | apply below_drew1) | exact HB.out)) hb); have n1_ := Aside0.mk (hbox); have n2_ := Aside0.mk ((by rw [hg]; exact (below_size (by repeat (first | (with_reducible first | exact HB.out | apply below_alloc | apply pw_below_drewN | apply below_drew1) | exact HB.out))) : w.heap.size ≤ ae)); have n3_ := Aside0.mk ((by rw [hg]; exact (below_size (by repeat (first | (with_reducible first | exact HB.out | apply below_alloc | apply pw_below_drewN | apply below_drew1) | exact HB.out))) : w.heap.size ≤ ae)); clear HB; have HB := n0_; have aa := n1_; have GW109 := n2_; have aM := n3_; clear n0_ n1_ n2_ n3_; clear hb hbox hg))
  have n0_ := Aside0.mk (blk_drew aa.out)
  have n1_ := Aside0.mk (below_drew1 HB.out)
  clear aa
  clear HB
  have aa := n0_
  have HB := n1_
  clear n0_ n1_
  refine start_ (n := 8) (S := fun w' => w'.cell? ⟨ae, 0, none⟩ = some (.string ac) ∧ w'.cell? ⟨ae, 1, none⟩ = some (.int .i64 ad) ∧ w'.cell? ⟨ae, 2, none⟩ = some (.int .i64 ai) ∧ w'.cell? ⟨ae, 3, none⟩ = some (.bool ah) ∧ w'.cell? ⟨ae, 4, none⟩ = some (.bool ao) ∧ w'.cell? ⟨ae, 5, none⟩ = some (.int .i64 af) ∧ w'.cell? ⟨ae, 6, none⟩ = some (.int .i64 al) ∧ w'.cell? ⟨ae, 7, none⟩ = some (.int .i64 am) ∧ w'.cell? ⟨ae, 8, none⟩ = some (.int .i64 ag)) (ds := []) #[false, false, false, false, false, false, false, false] (by kernel_rfl) rfl rfl ⟨(blk_cell aa.out 0).trans rfl, (blk_cell aa.out 1).trans rfl, (blk_cell aa.out 2).trans rfl, (blk_cell aa.out 3).trans rfl, (blk_cell aa.out 4).trans rfl, (blk_cell aa.out 5).trans rfl, (blk_cell aa.out 6).trans rfl, (blk_cell aa.out 7).trans rfl, (blk_cell aa.out 8).trans rfl⟩ (fun hHeld => ?_); refine with_tabW batonref20_conds.tab1 batonref20_conds.bits1 (fun HT_ HW_ => ?_)
  generalize w15.drew = w16 at aa HB hHeld ⊢
  refine pure_ (i := 0) (N := some 10) (v := ?_) (a' := ?_) #[true, false, false, false, false, false, false, false] rfl rfl (any_of HT_.out (by kernel_rfl)) (fun _ _ _ h => h) (Or.inl ⟨by rfl, ?_⟩) ?_ ?_
  rotate_left
  ·
   intro w'
   go_simp
   with_reducible rfl
  rotate_left
  ·
   simp only [Act.put, List.setIfInBounds_toArray, List.set_cons_zero, List.set_cons_succ, i64_w, i32_w]
   rfl
  refine pure_ (i := 1) (N := some 11) (v := ?_) (a' := ?_) #[true, true, false, false, false, false, false, false] rfl rfl (any_of HT_.out (by kernel_rfl)) (fun _ _ _ h => h) (Or.inl ⟨by rfl, ?_⟩) ?_ ?_
  rotate_left
  ·
   intro w'
   go_simp
   with_reducible rfl
  rotate_left
  ·
   simp only [Act.put, List.setIfInBounds_toArray, List.set_cons_zero, List.set_cons_succ, i64_w, i32_w]
   rfl
  refine pure_ (i := 3) (N := some 13) (v := ?_) (a' := ?_) #[true, true, false, true, false, false, false, false] rfl rfl (any_of HT_.out (by kernel_rfl)) (fun _ _ _ h => h) (Or.inl ⟨by rfl, ?_⟩) ?_ ?_
  rotate_left
  ·
   intro w'
   go_simp
   with_reducible rfl
  rotate_left
  ·
   simp only [Act.put, List.setIfInBounds_toArray, List.set_cons_zero, List.set_cons_succ, i64_w, i32_w]
   rfl
  refine take_ (i := 4) (N := some 14) (v := ?_) (a' := ?_) #[true, true, false, true, true, false, false, false] rfl rfl (take_ofW HT_.out HW_.out (by kernel_rfl)) (fun _ _ _ h => h) (Or.inl ⟨by rfl, ?_⟩) hHeld ?_ ?_
  rotate_left
  ·
   rintro w' ⟨s0, s1, s2, s3, s4, s5, s6, s7, s8⟩
   go_simp
   with_reducible rfl
  rotate_left
  ·
   simp only [Act.put, List.setIfInBounds_toArray, List.set_cons_zero, List.set_cons_succ, i64_w, i32_w]
   rfl
  refine one_ (i := 2) (N := some 12) #[true, true, true, true, true, false, false, false] rfl rfl (one_of HT_.out (by kernel_rfl)) (by decide) (fun K hK => ?_)
  refine goes_ Try.func95 (by kernel_rfl) rfl #[.string a1, .string a2] (by rfl) rfl rfl (by (try simp only [List.map_toArray, List.map_cons, List.map_nil]); first | done | rfl | (simp only [List.length_drop, List.length_take]; rfl)) ?_
  with_reducible refine (batonref11_Cluster.calls a1 a2 ap _ A5.out).mono ?_
  rintro e w' ⟨rfl, ⟨nd, rfl⟩⟩
  refine ⟨_, rfl, ?_⟩
  refine hK.out _ _ ⟨(blk_cell aa.out 0).trans rfl, (blk_cell aa.out 1).trans rfl, (blk_cell aa.out 2).trans rfl, (blk_cell aa.out 3).trans rfl, (blk_cell aa.out 4).trans rfl, (blk_cell aa.out 5).trans rfl, (blk_cell aa.out 6).trans rfl, (blk_cell aa.out 7).trans rfl, (blk_cell aa.out 8).trans rfl⟩ (fun hHeld => ?_)
  clear hK K
  refine norm_ (a' := ?_) ?_ ?_
  rotate_left
  ·
   show Act.put _ (some 12) _ = _
   simp only [Act.put, List.setIfInBounds_toArray, List.set_cons_zero, List.set_cons_succ, i64_w, i32_w]
   rfl
  refine pure_ (i := 5) (N := some 15) (v := ?_) (a' := ?_) #[true, true, true, true, true, true, false, false] rfl rfl (any_of HT_.out (by kernel_rfl)) (fun _ _ _ h => h) (Or.inl ⟨by rfl, ?_⟩) ?_ ?_
  rotate_left
  ·
   intro w'
   go_simp
   with_reducible rfl
  rotate_left
  ·
   simp only [Act.put, List.setIfInBounds_toArray, List.set_cons_zero, List.set_cons_succ, i64_w, i32_w]
   rfl
  refine one_ (i := 6) (N := some 16) #[true, true, true, true, true, true, true, false] rfl rfl (one_of HT_.out (by kernel_rfl)) (by decide) (fun K hK => ?_)
  refine Kd.R_lit_step k73 _ 73 ?hg (N := 16) ?hd (xs := ([(⟨ap, af⟩ : S73)] : List (S73))) (inner := [.string ap, .int .i64 af]) (ok := fun _ => True) (okp := fun _ => True) ?hr ?hp (fun _ hk => hk) trivial (Below.refl _ _) (Nat.le_refl _) (by simp) ?_; (case hd => rfl); (case hg => rfl); (case hr => first | (go_simp; done) | (go_simp; rfl)); (case hp => exact (Reps.c2 (show Kd.M k73 _ _ _ (⟨ap, af⟩ : S73) [.string ap, .int .i64 af] from (k73_mkM _ _ _ (⟨ap, af⟩ : S73) )) (Reps.none _ _)))
  intro v112 w17 ho18 hb hg_ hnew_
  clear hg_ hnew_
  (first | rw [← Ny111.out] at ho18 | (simp only [Int.reduceToNat] at ho18; rw [← Ny111.out] at ho18))
  have n0_ := Aside0.mk (Kd.R_lower ho18 (below_size (by repeat (first | (with_reducible first | exact HB.out | apply below_alloc | apply pw_below_drewN | apply below_drew1 | refine below_set ?_ aM.out) | exact HB.out))))
  have n1_ := Aside0.mk (blk_below (g := ae) (o := .cells #[.string ac, .int .i64 ad, .int .i64 ai, .bool ah, .bool ao, .int .i64 af, .int .i64 al, .int .i64 am, .int .i64 ag] 27 (0, 0)) (by (with_reducible repeat (first | refine blk_drewN ?_ _ | refine blk_drew ?_ | refine blk_alloc ?_ _)); exact aa.out) hb)
  have n2_ := Aside0.mk (below_step (by repeat (first | (with_reducible first | exact HB.out | apply below_alloc | apply pw_below_drewN | apply below_drew1 | refine below_set ?_ aM.out) | exact HB.out)) hb)
  clear aa
  clear HB
  have HO113 := n0_
  have aa := n1_
  have HB := n2_
  clear n0_ n1_ n2_
  clear hb ho18
  refine hK.out _ _ ⟨(blk_cell aa.out 0).trans rfl, (blk_cell aa.out 1).trans rfl, (blk_cell aa.out 2).trans rfl, (blk_cell aa.out 3).trans rfl, (blk_cell aa.out 4).trans rfl, (blk_cell aa.out 5).trans rfl, (blk_cell aa.out 6).trans rfl, (blk_cell aa.out 7).trans rfl, (blk_cell aa.out 8).trans rfl⟩ (fun hHeld => ?_)
  clear hK K
  refine norm_ (a' := ?_) ?_ ?_
  rotate_left
  ·
   show Act.put _ (some 16) _ = _
   simp only [Act.put, List.setIfInBounds_toArray, List.set_cons_zero, List.set_cons_succ, i64_w, i32_w]
   rfl
  refine pure_ (i := 7) (N := some 9) (v := ?_) (a' := ?_) #[true, true, true, true, true, true, true, true] rfl rfl (any_of HT_.out (by kernel_rfl)) (fun _ _ _ h => h) (Or.inl ⟨by rfl, ?_⟩) ?_ ?_
  rotate_left
  ·
   intro w'
   go_simp
   with_reducible rfl
  rotate_left
  ·
   simp only [Act.put, List.setIfInBounds_toArray, List.set_cons_zero, List.set_cons_succ, i64_w, i32_w]
   rfl
  refine done_ (done_of HT_.out (by kernel_rfl)) ?_
  try go_wp2
  go_ret
  exact ⟨_, by first | rfl | (simp [errW_none, errW_some] <;> rfl) | (simp [*, errW_none, errW_some] <;> rfl), by (with_reducible repeat (first | apply Kd.R_alloc | apply Kd.R_drewN | apply Kd.R_drew)); exact HO113.out, by repeat (first | (with_reducible first | exact HB.out | apply below_alloc | apply pw_below_drewN | apply below_drew1 | refine below_set ?_ aM.out) | exact HB.out)⟩
def batonref18_Encode.f (ac : ByteArray) (ad : Int) (ai : Int) (ah : Bool) : Option (ByteArray × Int) := if ac.size ≤ 140737488351232 then some ((if RP.mayRec ac ad ai then strOfNums (RP.recBytes ac ad ai ah) else ⟨#[]⟩), (if RP.mayRec ac ad ai then 0 else 4)) else none
theorem batonref18_Encode.calls (ac : ByteArray) (ad : Int) (ai : Int) (ah : Bool) (r1 : ByteArray) (r2 : Int) (w : World) (h : batonref18_Encode.f ac ad ai ah = some (r1, r2)) :
  Calls Try.prog 82 #[.agg #[.string ac, .int .i64 ad, .int .i64 ai, .bool ah]] w fun e w' => e = .returned (.tuple #[.string r1, .int .i64 r2]) ∧ Below w.heap.size w w' := by
 unfold batonref18_Encode.f at h
 split at h
 ·
  rename_i hc
  simp only [Option.some.injEq, Prod.mk.injEq] at h
  obtain ⟨rfl, rfl⟩ := h
  exact by
   refine (RP.refEncode_any ac hc ad ai ah w).mono ?_
   rintro e w' ⟨rfl, hb⟩
   refine ⟨?_, hb⟩
   unfold RP.encRes
   split <;> rfl
 ·
  cases h
def batonref20_puts.f (a0 : ByteArray) (a1 : ByteArray) (au : ByteArray) (av : Int) (aw : Int) (ax : Bool) : Option (Bool × ByteArray × ByteArray) := (batonref18_Encode.f au av aw ax).bind fun aW => ((batonref11_Cluster.f a0 a1).bind fun aH => (some (false, aH, aW.1)))
set_option maxHeartbeats 8000000 in
set_option maxRecDepth 100000 in
theorem batonref20_puts.calls (a0 : ByteArray) (a1 : ByteArray) (au : ByteArray) (av : Int) (aw : Int) (ax : Bool) (r1 : Bool) (r2 : ByteArray) (r3 : ByteArray) (w : World) (h : batonref20_puts.f a0 a1 au av aw ax = some (r1, r2, r3)) :
  Calls Try.prog 111 #[.string a0, .string a1, .agg #[.string au, .int .i64 av, .int .i64 aw, .bool ax]] w fun e w' => e = .returned (.agg #[.bool r1, .string r2, .string r3]) ∧ Below w.heap.size w w' := by
 have hu23 := Try.underlying23
 have hu85 := Try.underlying85
 have HB := Aside0.mk (Below.refl w.heap.size w)
 have H : ((batonref18_Encode.f au av aw ax).bind fun aW => ((batonref11_Cluster.f a0 a1).bind fun aH => (some (false, aH, aW.1)))) = some (r1, r2, r3) := h
 clear h
 replace H := Option.bind_eq_some_iff.mp H
 obtain ⟨⟨aT, a5⟩, A40, H⟩ := H
 replace H : ((batonref11_Cluster.f a0 a1).bind fun aH => (some (false, aH, aT))) = some (r1, r2, r3) := H
 have A4 := Aside0.mk A40
 clear A40
 replace H := Option.bind_eq_some_iff.mp H
 obtain ⟨aH, A50, H⟩ := H
 replace H : (some (false, aH, aT)) = some (r1, r2, r3) := H
 have A5 := Aside0.mk A50
 clear A50
 simp only [Option.some.injEq, Prod.mk.injEq] at H
 obtain ⟨rfl, rfl, rfl⟩ := H
 go_enter Try.func111, Try.ntmps111
 go_wp2_with (first | ((with_reducible refine gate_dst (N := 5) rfl ?_); refine box_event ?hg (N := 5) ?hd (cs := #[.string au, .int .i64 av, .int .i64 aw, .bool ax]) (t := 23) ?hr ?_; (case hd => rfl); (case hg => rfl); (case hr => first | (go_simp; done) | (go_simp; rfl)); intro aA hg w6 hbox hb; have n0_ := Aside0.mk (below_step (by repeat (first | (with_reducible first | exact HB.out | apply below_alloc | apply pw_below_drewN | apply below_drew1) | exact HB.out)) hb); have n1_ := Aside0.mk (hbox); have n2_ := Aside0.mk ((by rw [hg]; exact (below_size (by repeat (first | (with_reducible first | exact HB.out | apply below_alloc | apply pw_below_drewN | apply below_drew1) | exact HB.out))) : w.heap.size ≤ aA)); have n3_ := Aside0.mk ((by rw [hg]; exact (below_size (by repeat (first | (with_reducible first | exact HB.out | apply below_alloc | apply pw_below_drewN | apply below_drew1) | exact HB.out))) : w.heap.size ≤ aA)); clear HB; have HB := n0_; have an := n1_; have GW118 := n2_; have aQ := n3_; clear n0_ n1_ n2_ n3_; clear hb hbox hg) | ((with_reducible refine gate_dst (N := 6) rfl ?_); refine box_event ?hg (N := 6) ?hd (cs := #[.bool false, .string (⟨#[]⟩ : ByteArray), .string (⟨#[]⟩ : ByteArray)]) (t := 85) ?hr ?_; (case hd => rfl); (case hg => rfl); (case hr => first | (go_simp; done) | (go_simp; rfl)); intro aI hg w7 hbox hb; have n0_ := Aside0.mk (blk_below (g := aA) (o := .cells #[.string au, .int .i64 av, .int .i64 aw, .bool ax] 23 (0, 0)) (by (with_reducible repeat (first | refine blk_drewN ?_ _ | refine blk_drew ?_ | refine blk_alloc ?_ _)); exact an.out) hb); have n1_ := Aside0.mk (below_step (by repeat (first | (with_reducible first | exact HB.out | apply below_alloc | apply pw_below_drewN | apply below_drew1 | refine below_set ?_ aQ.out) | exact HB.out)) hb); have n2_ := Aside0.mk (hbox); have n3_ := Aside0.mk ((by rw [hg]; exact (below_size (by repeat (first | (with_reducible first | exact HB.out | apply below_alloc | apply pw_below_drewN | apply below_drew1 | refine below_set ?_ aQ.out) | exact HB.out))) : w.heap.size ≤ aI)); have n4_ := Aside0.mk ((by rw [hg]; exact (below_size (by repeat (first | (with_reducible first | exact HB.out | apply below_alloc | apply pw_below_drewN | apply below_drew1 | refine below_set ?_ aQ.out) | exact HB.out))) : w.heap.size ≤ aI)); have n5_ := Aside0.mk ((by rw [hg]; exact Nat.ne_of_lt (blk_lt (g := aA) (o := .cells #[.string au, .int .i64 av, .int .i64 aw, .bool ax] 23 (0, 0)) (by (with_reducible repeat (first | refine blk_drewN ?_ _ | refine blk_drew ?_ | refine blk_alloc ?_ _)); exact an.out)) : aA ≠ aI)); have n6_ := Aside0.mk ((by rw [hg]; exact Nat.ne_of_gt (blk_lt (g := aA) (o := .cells #[.string au, .int .i64 av, .int .i64 aw, .bool ax] 23 (0, 0)) (by (with_reducible repeat (first | refine blk_drewN ?_ _ | refine blk_drew ?_ | refine blk_alloc ?_ _)); exact an.out)) : aI ≠ aA)); clear an; clear HB; have an := n0_; have HB := n1_; have aC := n2_; have GW119 := n3_; have aX := n4_; have a6 := n5_; have a7 := n6_; clear n0_ n1_ n2_ n3_ n4_ n5_ n6_; clear hb hbox hg; have bM := a6.out; have bN := a7.out; have bO : w7.cell? ⟨aA, 0, none⟩ = some (.string au) := (blk_cell an.out 0).trans rfl; have bP : w7.cell? ⟨aA, 1, none⟩ = some (.int .i64 av) := (blk_cell an.out 1).trans rfl; have bQ : w7.cell? ⟨aA, 2, none⟩ = some (.int .i64 aw) := (blk_cell an.out 2).trans rfl; have bR : w7.cell? ⟨aA, 3, none⟩ = some (.bool ax) := (blk_cell an.out 3).trans rfl; have bS := blk_frozen an.out 0; have bT := blk_frozen an.out 1; have bU := blk_frozen an.out 2; have bV := blk_frozen an.out 3) | ((with_reducible refine gate_callee (f := 82) rfl ?_); refine goesL_ (some 11) rfl rfl Try.func82 (by kernel_rfl) rfl #[.agg #[.string au, .int .i64 av, .int .i64 aw, .bool ax]] rfl (by (try simp only [List.map_toArray, List.map_cons, List.map_nil]); first | done | rfl | (simp only [List.length_drop, List.length_take]; rfl)) ?_; (with_reducible refine (batonref18_Encode.calls au av aw ax aT a5 _ A4.out).mono ?_); rintro e w10 ⟨rfl, hb⟩; refine ⟨_, rfl, ?_⟩; have n0_ := Aside0.mk (blk_below (g := aA) (o := .cells #[.string au, .int .i64 av, .int .i64 aw, .bool ax] 23 (0, 0)) (by (with_reducible repeat (first | refine blk_drewN ?_ _ | refine blk_drew ?_ | refine blk_alloc ?_ _)); exact an.out) hb); have n1_ := Aside0.mk (blk_below (g := aI) (o := .cells #[.bool false, .string (⟨#[]⟩ : ByteArray), .string (⟨#[]⟩ : ByteArray)] 85 (0, 0)) (by (with_reducible repeat (first | refine blk_drewN ?_ _ | refine blk_drew ?_ | refine blk_alloc ?_ _)); exact aC.out) hb); have n2_ := Aside0.mk (below_step (by repeat (first | (with_reducible first | exact HB.out | apply below_alloc | apply pw_below_drewN | apply below_drew1 | refine below_set ?_ aQ.out | refine below_set ?_ aX.out) | exact HB.out)) hb); clear an; clear aC; clear HB; have an := n0_; have aC := n1_; have HB := n2_; clear n0_ n1_ n2_; (try clear hb); (try clear hb2); (try clear hk); (try clear hi)) | ((with_reducible refine gate_callee (f := 95) rfl ?_); refine goesL_ (some 16) rfl rfl Try.func95 (by kernel_rfl) rfl #[.string a0, .string a1] rfl (by (try simp only [List.map_toArray, List.map_cons, List.map_nil]); first | done | rfl | (simp only [List.length_drop, List.length_take]; rfl)) ?_; (with_reducible refine (batonref11_Cluster.calls a0 a1 aH _ A5.out).mono ?_); rintro e w' ⟨rfl, ⟨nd, rfl⟩⟩; refine ⟨_, rfl, ?_⟩; (try (rw [drewN_self w10]; generalize hq_ : World.drewN w10 _ = w10; have n0_ : Aside0 (w10.heap[aA]? = some (.cells #[.string au, .int .i64 av, .int .i64 aw, .bool ax] 23 (0, 0))) := ⟨by rw [← hq_]; exact (by (with_reducible repeat (first | refine blk_drewN ?_ _ | refine blk_drew ?_ | refine blk_alloc ?_ _)); exact an.out)⟩; have n1_ : Aside0 (w10.heap[aI]? = some (.cells #[.bool false, .string (⟨#[]⟩ : ByteArray), .string (⟨#[]⟩ : ByteArray)] 85 (0, 0))) := ⟨by rw [← hq_]; exact (by (with_reducible repeat (first | refine blk_drewN ?_ _ | refine blk_drew ?_ | refine blk_alloc ?_ _)); exact aC.out)⟩; have n2_ : Aside0 (Below w.heap.size w w10) := ⟨by rw [← hq_]; exact (by repeat (first | (with_reducible first | exact HB.out | apply below_alloc | apply pw_below_drewN | apply below_drew1 | refine below_set ?_ aQ.out | refine below_set ?_ aX.out) | exact HB.out))⟩; clear an aC HB hq_; have an := n0_; have aC := n1_; have HB := n2_; clear n0_ n1_ n2_)); have bW : w10.cell? ⟨aI, 0, none⟩ = some (.bool false) := (blk_cell aC.out 0).trans rfl; have bX : w10.cell? ⟨aI, 1, none⟩ = some (.string (⟨#[]⟩ : ByteArray)) := (blk_cell aC.out 1).trans rfl; have bY : w10.cell? ⟨aI, 2, none⟩ = some (.string (⟨#[]⟩ : ByteArray)) := (blk_cell aC.out 2).trans rfl; have bZ := blk_frozen aC.out 0; have b0 := blk_frozen aC.out 1; have b1 := blk_frozen aC.out 2))
 refine bodyPost_ret (results_cell_row rfl _ _ aI 85 #[.bool false, .string aH, .string aT] (0, 0) _ rfl (by (with_reducible repeat (first | refine blk_drewN ?_ _ | refine blk_drew ?_ | refine blk_alloc ?_ _)); refine blk_put (cs := #[.bool false, .string aH, .string (⟨#[]⟩ : ByteArray)]) ?_ 2 _ rfl; (with_reducible repeat (first | refine blk_drewN ?_ _ | refine blk_drew ?_ | refine blk_alloc ?_ _)); refine blk_put (cs := #[.bool false, .string (⟨#[]⟩ : ByteArray), .string (⟨#[]⟩ : ByteArray)]) ?_ 1 _ rfl; (with_reducible repeat (first | refine blk_drewN ?_ _ | refine blk_drew ?_ | refine blk_alloc ?_ _)); refine blk_put (cs := #[.bool false, .string (⟨#[]⟩ : ByteArray), .string (⟨#[]⟩ : ByteArray)]) ?_ 0 _ rfl; (with_reducible repeat (first | refine blk_drewN ?_ _ | refine blk_drew ?_ | refine blk_alloc ?_ _)); exact aC.out) Try.underlying85 rfl (by kernel_rfl)) rfl ?_
 exact ⟨by first | rfl | (simp [errW_none, errW_some] <;> rfl) | (simp [*, errW_none, errW_some] <;> rfl), by repeat (first | (with_reducible first | exact HB.out | apply below_alloc | apply pw_below_drewN | apply below_drew1 | refine below_set ?_ aQ.out | refine below_set ?_ aX.out) | exact HB.out)⟩
def batonref18_EncodeTenant.f (ac : Int) (ad : Int) : Option (ByteArray × Int) := some ((if RP.mayTen ac ad then strOfNums (RP.tenBytes ac ad) else ⟨#[]⟩), (if RP.mayTen ac ad then 0 else 4))
theorem batonref18_EncodeTenant.calls (ac : Int) (ad : Int) (r1 : ByteArray) (r2 : Int) (w : World) (h : batonref18_EncodeTenant.f ac ad = some (r1, r2)) :
  Calls Try.prog 84 #[.agg #[.int .i64 ac, .int .i64 ad]] w fun e w' => e = .returned (.tuple #[.string r1, .int .i64 r2]) ∧ Below w.heap.size w w' := by
 unfold batonref18_EncodeTenant.f at h
 simp only [Option.some.injEq, Prod.mk.injEq] at h
 obtain ⟨rfl, rfl⟩ := h
 exact by
   refine (RP.refEncodeTen_any ac ad w).mono ?_
   rintro e w' ⟨rfl, hb⟩
   refine ⟨?_, hb⟩
   unfold RP.encTenRes
   split <;> rfl
def batonref20_putsTenant.f (a0 : ByteArray) (ay : Int) (az : Int) : Option (Bool × ByteArray × ByteArray) := (batonref18_EncodeTenant.f ay az).bind fun aY => ((batonref11_Tenant.f a0).bind fun aJ => (some (false, aJ, aY.1)))
set_option maxHeartbeats 8000000 in
set_option maxRecDepth 100000 in
theorem batonref20_putsTenant.calls (a0 : ByteArray) (ay : Int) (az : Int) (r1 : Bool) (r2 : ByteArray) (r3 : ByteArray) (w : World) (h : batonref20_putsTenant.f a0 ay az = some (r1, r2, r3)) :
  Calls Try.prog 112 #[.string a0, .agg #[.int .i64 ay, .int .i64 az]] w fun e w' => e = .returned (.agg #[.bool r1, .string r2, .string r3]) ∧ Below w.heap.size w w' := by
 have hu25 := Try.underlying25
 have hu85 := Try.underlying85
 have HB := Aside0.mk (Below.refl w.heap.size w)
 have H : ((batonref18_EncodeTenant.f ay az).bind fun aY => ((batonref11_Tenant.f a0).bind fun aJ => (some (false, aJ, aY.1)))) = some (r1, r2, r3) := h
 clear h
 replace H := Option.bind_eq_some_iff.mp H
 obtain ⟨⟨aU, a8⟩, A30, H⟩ := H
 replace H : ((batonref11_Tenant.f a0).bind fun aJ => (some (false, aJ, aU))) = some (r1, r2, r3) := H
 have A3 := Aside0.mk A30
 clear A30
 replace H := Option.bind_eq_some_iff.mp H
 obtain ⟨aJ, A40, H⟩ := H
 replace H : (some (false, aJ, aU)) = some (r1, r2, r3) := H
 have A4 := Aside0.mk A40
 clear A40
 simp only [Option.some.injEq, Prod.mk.injEq] at H
 obtain ⟨rfl, rfl, rfl⟩ := H
 go_enter Try.func112, Try.ntmps112
 go_wp2_with (first | ((with_reducible refine gate_dst (N := 3) rfl ?_); refine box_event ?hg (N := 3) ?hd (cs := #[.int .i64 ay, .int .i64 az]) (t := 25) ?hr ?_; (case hd => rfl); (case hg => rfl); (case hr => first | (go_simp; done) | (go_simp; rfl)); intro aE hg w5 hbox hb; have n0_ := Aside0.mk (below_step (by repeat (first | (with_reducible first | exact HB.out | apply below_alloc | apply pw_below_drewN | apply below_drew1) | exact HB.out)) hb); have n1_ := Aside0.mk (hbox); have n2_ := Aside0.mk ((by rw [hg]; exact (below_size (by repeat (first | (with_reducible first | exact HB.out | apply below_alloc | apply pw_below_drewN | apply below_drew1) | exact HB.out))) : w.heap.size ≤ aE)); have n3_ := Aside0.mk ((by rw [hg]; exact (below_size (by repeat (first | (with_reducible first | exact HB.out | apply below_alloc | apply pw_below_drewN | apply below_drew1) | exact HB.out))) : w.heap.size ≤ aE)); clear HB; have HB := n0_; have ar := n1_; have GW123 := n2_; have aR := n3_; clear n0_ n1_ n2_ n3_; clear hb hbox hg) | ((with_reducible refine gate_dst (N := 4) rfl ?_); refine box_event ?hg (N := 4) ?hd (cs := #[.bool false, .string (⟨#[]⟩ : ByteArray), .string (⟨#[]⟩ : ByteArray)]) (t := 85) ?hr ?_; (case hd => rfl); (case hg => rfl); (case hr => first | (go_simp; done) | (go_simp; rfl)); intro aK hg w6 hbox hb; have n0_ := Aside0.mk (blk_below (g := aE) (o := .cells #[.int .i64 ay, .int .i64 az] 25 (0, 0)) (by (with_reducible repeat (first | refine blk_drewN ?_ _ | refine blk_drew ?_ | refine blk_alloc ?_ _)); exact ar.out) hb); have n1_ := Aside0.mk (below_step (by repeat (first | (with_reducible first | exact HB.out | apply below_alloc | apply pw_below_drewN | apply below_drew1 | refine below_set ?_ aR.out) | exact HB.out)) hb); have n2_ := Aside0.mk (hbox); have n3_ := Aside0.mk ((by rw [hg]; exact (below_size (by repeat (first | (with_reducible first | exact HB.out | apply below_alloc | apply pw_below_drewN | apply below_drew1 | refine below_set ?_ aR.out) | exact HB.out))) : w.heap.size ≤ aK)); have n4_ := Aside0.mk ((by rw [hg]; exact (below_size (by repeat (first | (with_reducible first | exact HB.out | apply below_alloc | apply pw_below_drewN | apply below_drew1 | refine below_set ?_ aR.out) | exact HB.out))) : w.heap.size ≤ aK)); have n5_ := Aside0.mk ((by rw [hg]; exact Nat.ne_of_lt (blk_lt (g := aE) (o := .cells #[.int .i64 ay, .int .i64 az] 25 (0, 0)) (by (with_reducible repeat (first | refine blk_drewN ?_ _ | refine blk_drew ?_ | refine blk_alloc ?_ _)); exact ar.out)) : aE ≠ aK)); have n6_ := Aside0.mk ((by rw [hg]; exact Nat.ne_of_gt (blk_lt (g := aE) (o := .cells #[.int .i64 ay, .int .i64 az] 25 (0, 0)) (by (with_reducible repeat (first | refine blk_drewN ?_ _ | refine blk_drew ?_ | refine blk_alloc ?_ _)); exact ar.out)) : aK ≠ aE)); clear ar; clear HB; have ar := n0_; have HB := n1_; have aD := n2_; have GW124 := n3_; have aZ := n4_; have a9 := n5_; have ba := n6_; clear n0_ n1_ n2_ n3_ n4_ n5_ n6_; clear hb hbox hg; have b2 := a9.out; have b3 := ba.out; have b4 : w6.cell? ⟨aE, 0, none⟩ = some (.int .i64 ay) := (blk_cell ar.out 0).trans rfl; have b5 : w6.cell? ⟨aE, 1, none⟩ = some (.int .i64 az) := (blk_cell ar.out 1).trans rfl; have b6 := blk_frozen ar.out 0; have b7 := blk_frozen ar.out 1) | ((with_reducible refine gate_callee (f := 84) rfl ?_); refine goesL_ (some 9) rfl rfl Try.func84 (by kernel_rfl) rfl #[.agg #[.int .i64 ay, .int .i64 az]] rfl (by (try simp only [List.map_toArray, List.map_cons, List.map_nil]); first | done | rfl | (simp only [List.length_drop, List.length_take]; rfl)) ?_; (with_reducible refine (batonref18_EncodeTenant.calls ay az aU a8 _ A3.out).mono ?_); rintro e w9 ⟨rfl, hb⟩; refine ⟨_, rfl, ?_⟩; have n0_ := Aside0.mk (blk_below (g := aE) (o := .cells #[.int .i64 ay, .int .i64 az] 25 (0, 0)) (by (with_reducible repeat (first | refine blk_drewN ?_ _ | refine blk_drew ?_ | refine blk_alloc ?_ _)); exact ar.out) hb); have n1_ := Aside0.mk (blk_below (g := aK) (o := .cells #[.bool false, .string (⟨#[]⟩ : ByteArray), .string (⟨#[]⟩ : ByteArray)] 85 (0, 0)) (by (with_reducible repeat (first | refine blk_drewN ?_ _ | refine blk_drew ?_ | refine blk_alloc ?_ _)); exact aD.out) hb); have n2_ := Aside0.mk (below_step (by repeat (first | (with_reducible first | exact HB.out | apply below_alloc | apply pw_below_drewN | apply below_drew1 | refine below_set ?_ aR.out | refine below_set ?_ aZ.out) | exact HB.out)) hb); clear ar; clear aD; clear HB; have ar := n0_; have aD := n1_; have HB := n2_; clear n0_ n1_ n2_; (try clear hb); (try clear hb2); (try clear hk); (try clear hi)) | ((with_reducible refine gate_callee (f := 96) rfl ?_); refine goesL_ (some 13) rfl rfl Try.func96 (by kernel_rfl) rfl #[.string a0] rfl (by (try simp only [List.map_toArray, List.map_cons, List.map_nil]); first | done | rfl | (simp only [List.length_drop, List.length_take]; rfl)) ?_; (with_reducible refine (batonref11_Tenant.calls a0 aJ _ A4.out).mono ?_); rintro e w' ⟨rfl, ⟨nd, rfl⟩⟩; refine ⟨_, rfl, ?_⟩; (try (rw [drewN_self w9]; generalize hq_ : World.drewN w9 _ = w9; have n0_ : Aside0 (w9.heap[aE]? = some (.cells #[.int .i64 ay, .int .i64 az] 25 (0, 0))) := ⟨by rw [← hq_]; exact (by (with_reducible repeat (first | refine blk_drewN ?_ _ | refine blk_drew ?_ | refine blk_alloc ?_ _)); exact ar.out)⟩; have n1_ : Aside0 (w9.heap[aK]? = some (.cells #[.bool false, .string (⟨#[]⟩ : ByteArray), .string (⟨#[]⟩ : ByteArray)] 85 (0, 0))) := ⟨by rw [← hq_]; exact (by (with_reducible repeat (first | refine blk_drewN ?_ _ | refine blk_drew ?_ | refine blk_alloc ?_ _)); exact aD.out)⟩; have n2_ : Aside0 (Below w.heap.size w w9) := ⟨by rw [← hq_]; exact (by repeat (first | (with_reducible first | exact HB.out | apply below_alloc | apply pw_below_drewN | apply below_drew1 | refine below_set ?_ aR.out | refine below_set ?_ aZ.out) | exact HB.out))⟩; clear ar aD HB hq_; have ar := n0_; have aD := n1_; have HB := n2_; clear n0_ n1_ n2_)); have b8 : w9.cell? ⟨aK, 0, none⟩ = some (.bool false) := (blk_cell aD.out 0).trans rfl; have b9 : w9.cell? ⟨aK, 1, none⟩ = some (.string (⟨#[]⟩ : ByteArray)) := (blk_cell aD.out 1).trans rfl; have ca : w9.cell? ⟨aK, 2, none⟩ = some (.string (⟨#[]⟩ : ByteArray)) := (blk_cell aD.out 2).trans rfl; have cb := blk_frozen aD.out 0; have cc := blk_frozen aD.out 1; have cd := blk_frozen aD.out 2))
 refine bodyPost_ret (results_cell_row rfl _ _ aK 85 #[.bool false, .string aJ, .string aU] (0, 0) _ rfl (by (with_reducible repeat (first | refine blk_drewN ?_ _ | refine blk_drew ?_ | refine blk_alloc ?_ _)); refine blk_put (cs := #[.bool false, .string aJ, .string (⟨#[]⟩ : ByteArray)]) ?_ 2 _ rfl; (with_reducible repeat (first | refine blk_drewN ?_ _ | refine blk_drew ?_ | refine blk_alloc ?_ _)); refine blk_put (cs := #[.bool false, .string (⟨#[]⟩ : ByteArray), .string (⟨#[]⟩ : ByteArray)]) ?_ 1 _ rfl; (with_reducible repeat (first | refine blk_drewN ?_ _ | refine blk_drew ?_ | refine blk_alloc ?_ _)); refine blk_put (cs := #[.bool false, .string (⟨#[]⟩ : ByteArray), .string (⟨#[]⟩ : ByteArray)]) ?_ 0 _ rfl; (with_reducible repeat (first | refine blk_drewN ?_ _ | refine blk_drew ?_ | refine blk_alloc ?_ _)); exact aD.out) Try.underlying85 rfl (by kernel_rfl)) rfl ?_
 exact ⟨by first | rfl | (simp [errW_none, errW_some] <;> rfl) | (simp [*, errW_none, errW_some] <;> rfl), by repeat (first | (with_reducible first | exact HB.out | apply below_alloc | apply pw_below_drewN | apply below_drew1 | refine below_set ?_ aR.out | refine below_set ?_ aZ.out) | exact HB.out)⟩
end Go.Proofs.Ytobanhbjkomieaa.PEl
