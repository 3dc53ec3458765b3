import Derived.Test.YtobanhbjkomieaaPElx0Sv
namespace Go.Proofs.Ytobanhbjkomieaa.PEl
open Go.RowKit Go.Proofs.YtobanhbjkomieaaW.PrintWords Go.Proofs.YtobanhbjkomieaaW.PrintLast Go.Proofs.YtobanhbjkomieaaW.PrintMore
attribute [local go_sem] max2_int min2_int max_two min_two max_three min_three max_four min_four   -- for this text's walks alone
set_option linter.unusedVariables false
set_option linter.unusedSimpArgs false
def batonref18_May.f (ac : ByteArray) (ad : Int) (ae : Int) (ai : Bool) : Option (Bool) := if ac.size ≤ 140737488351232 then some (RP.mayRec ac ad ae) else none
theorem batonref18_May.calls (ac : ByteArray) (ad : Int) (ae : Int) (ai : Bool) (r : Bool) (w : World) (h : batonref18_May.f ac ad ae ai = some (r)) :
  Calls Try.prog 86 #[.agg #[.string ac, .int .i64 ad, .int .i64 ae, .bool ai]] w fun e w' => e = .returned (.bool r) ∧ Below w.heap.size w w' := by
 unfold batonref18_May.f at h
 split at h
 ·
  rename_i hc
  simp only [Option.some.injEq] at h
  obtain rfl := h
  exact RP.refRecMay_any ac hc ad ae ai w
 ·
  cases h
def batonref18_MayTenant.f (ac : Int) (ad : Int) : Option (Bool) := some (RP.mayTen ac ad)
theorem batonref18_MayTenant.calls (ac : Int) (ad : Int) (r : Bool) (w : World) (h : batonref18_MayTenant.f ac ad = some (r)) :
  Calls Try.prog 88 #[.agg #[.int .i64 ac, .int .i64 ad]] w fun e w' => e = .returned (.bool r) ∧ Below w.heap.size w w' := by
 unfold batonref18_MayTenant.f at h
 simp only [Option.some.injEq] at h
 obtain rfl := h
 exact RP.refTenMay_any ac ad w
def batonref20_mod.f (a0 : Int) : Option (Bool) := if a0 ≥ 1 then (some (decide (a0 ≤ 1099511627776))) else (some false)
set_option maxHeartbeats 8000000 in
set_option maxRecDepth 100000 in
theorem batonref20_mod.calls (a0 : Int) (r : Bool) (w : World) (h : batonref20_mod.f a0 = some r) :
  Calls Try.prog 114 #[.int .i64 a0] w fun e w' => e = .returned (.bool r) ∧ Drawn0 w w' := by
 have H : (if a0 ≥ 1 then (some (decide (a0 ≤ 1099511627776))) else (some false)) = some r := h
 clear h
 by_cases c2 : a0 ≥ 1
 ·
  rw [if_pos c2] at H
  have c2b0 : decide (1 ≤ a0) = true := decide_eq_true c2
  clear c2
  obtain rfl := Option.some.inj H
  go_enter Try.func114, Try.ntmps114
  go_wp2
  go_ret
  exact ⟨by first | rfl | (simp; done) | (simp [*]; done), by repeat (first | exact Drawn0.refl _ | apply Drawn0.step)⟩
 ·
  rw [if_neg c2] at H
  have c2b0 : decide (1 ≤ a0) = false := decide_eq_false c2
  clear c2
  obtain rfl := Option.some.inj H
  go_enter Try.func114, Try.ntmps114
  go_wp2
  go_ret
  exact ⟨by first | rfl | (simp; done) | (simp [*]; done), by repeat (first | exact Drawn0.refl _ | apply Drawn0.step)⟩
mutual
def batonref20_May.j0 : Nat → Bool → ByteArray → Int → Int → Bool → Bool → Int → Int → Int → Int → Option (Bool)
 | 0, _, _, _, _, _, _, _, _, _, _ => none
 | k + 1, x16, ar, au, av, aw, ax, ay, ao, ap, aq => if x16 = true then (some false) else (if ax = true then (batonref20_May.j1 k false ar au av aw ax ay ao ap aq) else (if ar.toList = ([] : List UInt8) then (if au = 0 then (if av = 0 then (if aw = true then (batonref20_May.j1 k true ar au av aw ax ay ao ap aq) else (batonref20_May.j1 k (ay != 0) ar au av aw ax ay ao ap aq)) else (batonref20_May.j1 k true ar au av aw ax ay ao ap aq)) else (batonref20_May.j1 k true ar au av aw ax ay ao ap aq)) else (batonref20_May.j1 k true ar au av aw ax ay ao ap aq)))
def batonref20_May.j1 : Nat → Bool → ByteArray → Int → Int → Bool → Bool → Int → Int → Int → Int → Option (Bool)
 | 0, _, _, _, _, _, _, _, _, _, _ => none
 | k + 1, x47, ar, au, av, aw, ax, ay, ao, ap, aq => if x47 = true then (some false) else (if aq = 0 then (if ao = 0 then (some (ap == 0)) else (some false)) else ((batonref20_mod.f aq).bind fun aA => (if aA = true then ((batonref18_MayTenant.f ao ap).bind fun an => (some an)) else (some false))))
end
def batonref20_May.f (k : Nat) (ac : ByteArray) (ad : Int) (ae : Int) (ai : Bool) (ak : Bool) (ag : Int) (ah : Int) (aj : Int) (af : Int) : Option (Bool) := if ak = true then ((batonref18_May.f ac ad ae ai).bind fun az => (if az = true then ((batonref20_mod.f ag).bind fun am => (batonref20_May.j0 k (!am) ac ad ae ai ak ag ah aj af)) else (batonref20_May.j0 k true ac ad ae ai ak ag ah aj af))) else (batonref20_May.j0 k false ac ad ae ai ak ag ah aj af)
set_option maxHeartbeats 8000000 in
set_option maxRecDepth 100000 in
theorem batonref20_May.calls (k : Nat) (ac : ByteArray) (ad : Int) (ae : Int) (ai : Bool) (ak : Bool) (ag : Int) (ah : Int) (aj : Int) (af : Int) (r : Bool) (w : World) (h : batonref20_May.f k ac ad ae ai ak ag ah aj af = some r) :
  Calls Try.prog 29 #[.agg #[.string ac, .int .i64 ad, .int .i64 ae, .bool ai, .bool ak, .int .i64 ag, .int .i64 ah, .int .i64 aj, .int .i64 af]] w fun e w' => e = .returned (.bool r) ∧ Below w.heap.size w w' := by
 have hu27 := Try.underlying27
 have hu23 := Try.underlying23
 have hu25 := Try.underlying25
 have HB := Aside0.mk (Below.refl w.heap.size w)
 have H : (if ak = true then ((batonref18_May.f ac ad ae ai).bind fun az => (if az = true then ((batonref20_mod.f ag).bind fun am => (batonref20_May.j0 k (!am) ac ad ae ai ak ag ah aj af)) else (batonref20_May.j0 k true ac ad ae ai ak ag ah aj af))) else (batonref20_May.j0 k false ac ad ae ai ak ag ah aj af)) = some r := h
 clear h
 have aD := Aside0.mk H
 clear H
 go_enter Try.func29, Try.ntmps29
 go_upto_region 1 with (first | ((with_reducible refine gate_dst (N := 1) rfl ?_); refine box_event ?hg (N := 1) ?hd (cs := #[.string ac, .int .i64 ad, .int .i64 ae, .bool ai, .bool ak, .int .i64 ag, .int .i64 ah, .int .i64 aj, .int .i64 af]) (t := 27) ?hr ?_; (case hd => rfl); (case hg => rfl); (case hr => first | (go_simp; done) | (go_simp; rfl)); intro ab hg w3 hbox hb; have n0_ := Aside0.mk (below_step (by repeat (first | (with_reducible first | exact HB.out | apply below_alloc | apply pw_below_drewN | apply below_drew1) | exact HB.out)) hb); have n1_ := Aside0.mk (hbox); have n2_ := Aside0.mk ((by rw [hg]; exact (below_size (by repeat (first | (with_reducible first | exact HB.out | apply below_alloc | apply pw_below_drewN | apply below_drew1) | exact HB.out))) : w.heap.size ≤ ab)); have n3_ := Aside0.mk ((by rw [hg]; exact (below_size (by repeat (first | (with_reducible first | exact HB.out | apply below_alloc | apply pw_below_drewN | apply below_drew1) | exact HB.out))) : w.heap.size ≤ ab)); clear HB; have HB := n0_; have aa := n1_; have GW101 := n2_; have al := n3_; clear n0_ n1_ n2_ n3_; clear hb hbox hg))
 (try simp only [Act.put, List.setIfInBounds_toArray, List.set_cons_zero, List.set_cons_succ])
 go_cut [16] (fun v16 wc => ∃ (kq : Nat) (aB : Bool), v16 = .bool aB ∧ Aside0 (batonref20_May.j0 kq aB ac ad ae ai ak ag ah aj af = some r) ∧ Aside0 (kq ≤ k) ∧ Aside0 (wc.heap[ab]? = some (.cells #[.string ac, .int .i64 ad, .int .i64 ae, .bool ai, .bool ak, .int .i64 ag, .int .i64 ah, .int .i64 aj, .int .i64 af] 27 (0, 0))) ∧ Aside0 (Below w.heap.size w wc))
 case first =>
  have H := aD.out
  clear aD
  by_cases c4 : ak = true
  ·
   subst c4
   have H1 : ((batonref18_May.f ac ad ae ai).bind fun az => (if az = true then ((batonref20_mod.f ag).bind fun am => (batonref20_May.j0 k (!am) ac ad ae ai true ag ah aj af)) else (batonref20_May.j0 k true ac ad ae ai true ag ah aj af))) = some r := by rw [if_pos rfl] at H; exact H
   clear H
   have H := H1
   clear H1
   replace H := Option.bind_eq_some_iff.mp H
   obtain ⟨az, A50, H⟩ := H
   replace H : (if az = true then ((batonref20_mod.f ag).bind fun am => (batonref20_May.j0 k (!am) ac ad ae ai true ag ah aj af)) else (batonref20_May.j0 k true ac ad ae ai true ag ah aj af)) = some r := H
   have A5 := Aside0.mk A50
   clear A50
   by_cases c6 : az = true
   ·
    subst c6
    have H1 : ((batonref20_mod.f ag).bind fun am => (batonref20_May.j0 k (!am) ac ad ae ai true ag ah aj af)) = some r := by rw [if_pos rfl] at H; exact H
    clear H
    have H := H1
    clear H1
    replace H := Option.bind_eq_some_iff.mp H
    obtain ⟨am, A70, H⟩ := H
    replace H : (batonref20_May.j0 k (!am) ac ad ae ai true ag ah aj af) = some r := H
    have A7 := Aside0.mk A70
    clear A70
    have H' := Aside0.mk H
    clear H
    have aF : w3.cell? ⟨ab, 0, none⟩ = some (.string ac) := (blk_cell aa.out 0).trans rfl
    have aG : w3.cell? ⟨ab, 1, none⟩ = some (.int .i64 ad) := (blk_cell aa.out 1).trans rfl
    have aH : w3.cell? ⟨ab, 2, none⟩ = some (.int .i64 ae) := (blk_cell aa.out 2).trans rfl
    have aI : w3.cell? ⟨ab, 3, none⟩ = some (.bool ai) := (blk_cell aa.out 3).trans rfl
    have aJ : w3.cell? ⟨ab, 4, none⟩ = some (.bool true) := (blk_cell aa.out 4).trans rfl
    have aK : w3.cell? ⟨ab, 5, none⟩ = some (.int .i64 ag) := (blk_cell aa.out 5).trans rfl
    have aL : w3.cell? ⟨ab, 6, none⟩ = some (.int .i64 ah) := (blk_cell aa.out 6).trans rfl
    have aM : w3.cell? ⟨ab, 7, none⟩ = some (.int .i64 aj) := (blk_cell aa.out 7).trans rfl
    have aN : w3.cell? ⟨ab, 8, none⟩ = some (.int .i64 af) := (blk_cell aa.out 8).trans rfl
    have aO := blk_frozen aa.out 0
    have aP := blk_frozen aa.out 1
    have aQ := blk_frozen aa.out 2
    have aR := blk_frozen aa.out 3
    have aS := blk_frozen aa.out 4
    have aT := blk_frozen aa.out 5
    have aU := blk_frozen aa.out 6
    have aV := blk_frozen aa.out 7
    have aW := blk_frozen aa.out 8
    go_wp2_with (first | (go_at_call 86; (with_reducible refine (batonref18_May.calls ac ad ae ai true _ A5.out).mono ?_); rintro e w9 ⟨rfl, hb⟩; have n0_ := Aside0.mk (blk_below (g := ab) (o := .cells #[.string ac, .int .i64 ad, .int .i64 ae, .bool ai, .bool true, .int .i64 ag, .int .i64 ah, .int .i64 aj, .int .i64 af] 27 (0, 0)) (by (with_reducible repeat (first | refine blk_drewN ?_ _ | refine blk_drew ?_ | refine blk_alloc ?_ _)); exact aa.out) hb); have n1_ := Aside0.mk (below_step (by repeat (first | (with_reducible first | exact HB.out | apply below_alloc | apply pw_below_drewN | apply below_drew1 | refine below_set ?_ al.out) | exact HB.out)) hb); clear aa; clear HB; have aa := n0_; have HB := n1_; clear n0_ n1_; (try clear hb); (try clear hb2); (try clear hk); (try clear hi); have aX : w9.cell? ⟨ab, 0, none⟩ = some (.string ac) := (blk_cell aa.out 0).trans rfl; have aY : w9.cell? ⟨ab, 1, none⟩ = some (.int .i64 ad) := (blk_cell aa.out 1).trans rfl; have aZ : w9.cell? ⟨ab, 2, none⟩ = some (.int .i64 ae) := (blk_cell aa.out 2).trans rfl; have a1 : w9.cell? ⟨ab, 3, none⟩ = some (.bool ai) := (blk_cell aa.out 3).trans rfl; have a2 : w9.cell? ⟨ab, 4, none⟩ = some (.bool true) := (blk_cell aa.out 4).trans rfl; have a3 : w9.cell? ⟨ab, 5, none⟩ = some (.int .i64 ag) := (blk_cell aa.out 5).trans rfl; have a4 : w9.cell? ⟨ab, 6, none⟩ = some (.int .i64 ah) := (blk_cell aa.out 6).trans rfl; have a5 : w9.cell? ⟨ab, 7, none⟩ = some (.int .i64 aj) := (blk_cell aa.out 7).trans rfl; have a6 : w9.cell? ⟨ab, 8, none⟩ = some (.int .i64 af) := (blk_cell aa.out 8).trans rfl; have a7 := blk_frozen aa.out 0; have a8 := blk_frozen aa.out 1; have a9 := blk_frozen aa.out 2; have ba := blk_frozen aa.out 3; have bb := blk_frozen aa.out 4; have bc := blk_frozen aa.out 5; have bd := blk_frozen aa.out 6; have be := blk_frozen aa.out 7; have bf := blk_frozen aa.out 8) | (go_at_call 114; (with_reducible refine (batonref20_mod.calls ag am _ A7.out).mono ?_); rintro e w' ⟨rfl, ⟨nd, rfl⟩⟩))
    go_meet
    case rel => exact ⟨_, (!am), (by first | rfl | (simp; done) | (simp [*]; done)), H', ⟨by first | omega | exact Nat.le_refl _⟩, ⟨by (with_reducible repeat (first | refine blk_drewN ?_ _ | refine blk_drew ?_ | refine blk_alloc ?_ _)); exact aa.out⟩, ⟨by repeat (first | (with_reducible first | exact HB.out | apply below_alloc | apply pw_below_drewN | apply below_drew1 | refine below_set ?_ al.out) | exact HB.out)⟩⟩
   ·
    replace c6 := Bool.eq_false_iff.mpr c6
    subst c6
    have H1 : (batonref20_May.j0 k true ac ad ae ai true ag ah aj af) = some r := by rw [if_neg (show ¬ (false = true) by decide)] at H; exact H
    clear H
    have H := H1
    clear H1
    have H' := Aside0.mk H
    clear H
    have bg : w3.cell? ⟨ab, 0, none⟩ = some (.string ac) := (blk_cell aa.out 0).trans rfl
    have bh : w3.cell? ⟨ab, 1, none⟩ = some (.int .i64 ad) := (blk_cell aa.out 1).trans rfl
    have bi : w3.cell? ⟨ab, 2, none⟩ = some (.int .i64 ae) := (blk_cell aa.out 2).trans rfl
    have bj : w3.cell? ⟨ab, 3, none⟩ = some (.bool ai) := (blk_cell aa.out 3).trans rfl
    have bk : w3.cell? ⟨ab, 4, none⟩ = some (.bool true) := (blk_cell aa.out 4).trans rfl
    have bl : w3.cell? ⟨ab, 5, none⟩ = some (.int .i64 ag) := (blk_cell aa.out 5).trans rfl
    have bm : w3.cell? ⟨ab, 6, none⟩ = some (.int .i64 ah) := (blk_cell aa.out 6).trans rfl
    have bn : w3.cell? ⟨ab, 7, none⟩ = some (.int .i64 aj) := (blk_cell aa.out 7).trans rfl
    have bo : w3.cell? ⟨ab, 8, none⟩ = some (.int .i64 af) := (blk_cell aa.out 8).trans rfl
    have bp := blk_frozen aa.out 0
    have bq := blk_frozen aa.out 1
    have br := blk_frozen aa.out 2
    have bs := blk_frozen aa.out 3
    have bt := blk_frozen aa.out 4
    have bu := blk_frozen aa.out 5
    have bv := blk_frozen aa.out 6
    have bw := blk_frozen aa.out 7
    have bx := blk_frozen aa.out 8
    go_wp2_with (first | (go_at_call 86; (with_reducible refine (batonref18_May.calls ac ad ae ai false _ A5.out).mono ?_); rintro e w12 ⟨rfl, hb⟩; have n0_ := Aside0.mk (blk_below (g := ab) (o := .cells #[.string ac, .int .i64 ad, .int .i64 ae, .bool ai, .bool true, .int .i64 ag, .int .i64 ah, .int .i64 aj, .int .i64 af] 27 (0, 0)) (by (with_reducible repeat (first | refine blk_drewN ?_ _ | refine blk_drew ?_ | refine blk_alloc ?_ _)); exact aa.out) hb); have n1_ := Aside0.mk (below_step (by repeat (first | (with_reducible first | exact HB.out | apply below_alloc | apply pw_below_drewN | apply below_drew1 | refine below_set ?_ al.out) | exact HB.out)) hb); clear aa; clear HB; have aa := n0_; have HB := n1_; clear n0_ n1_; (try clear hb); (try clear hb2); (try clear hk); (try clear hi)))
    go_meet
    case rel => exact ⟨_, (true), (by first | rfl | (simp; done) | (simp [*]; done)), H', ⟨by first | omega | exact Nat.le_refl _⟩, ⟨by (with_reducible repeat (first | refine blk_drewN ?_ _ | refine blk_drew ?_ | refine blk_alloc ?_ _)); exact aa.out⟩, ⟨by repeat (first | (with_reducible first | exact HB.out | apply below_alloc | apply pw_below_drewN | apply below_drew1 | refine below_set ?_ al.out) | exact HB.out)⟩⟩
  ·
   replace c4 := Bool.eq_false_iff.mpr c4
   subst c4
   have H1 : (batonref20_May.j0 k false ac ad ae ai false ag ah aj af) = some r := by rw [if_neg (show ¬ (false = true) by decide)] at H; exact H
   clear H
   have H := H1
   clear H1
   have H' := Aside0.mk H
   clear H
   have bz : w3.cell? ⟨ab, 0, none⟩ = some (.string ac) := (blk_cell aa.out 0).trans rfl
   have bA : w3.cell? ⟨ab, 1, none⟩ = some (.int .i64 ad) := (blk_cell aa.out 1).trans rfl
   have bB : w3.cell? ⟨ab, 2, none⟩ = some (.int .i64 ae) := (blk_cell aa.out 2).trans rfl
   have bC : w3.cell? ⟨ab, 3, none⟩ = some (.bool ai) := (blk_cell aa.out 3).trans rfl
   have bD : w3.cell? ⟨ab, 4, none⟩ = some (.bool false) := (blk_cell aa.out 4).trans rfl
   have bE : w3.cell? ⟨ab, 5, none⟩ = some (.int .i64 ag) := (blk_cell aa.out 5).trans rfl
   have bF : w3.cell? ⟨ab, 6, none⟩ = some (.int .i64 ah) := (blk_cell aa.out 6).trans rfl
   have bG : w3.cell? ⟨ab, 7, none⟩ = some (.int .i64 aj) := (blk_cell aa.out 7).trans rfl
   have bH : w3.cell? ⟨ab, 8, none⟩ = some (.int .i64 af) := (blk_cell aa.out 8).trans rfl
   have bI := blk_frozen aa.out 0
   have bJ := blk_frozen aa.out 1
   have bK := blk_frozen aa.out 2
   have bL := blk_frozen aa.out 3
   have bM := blk_frozen aa.out 4
   have bN := blk_frozen aa.out 5
   have bO := blk_frozen aa.out 6
   have bP := blk_frozen aa.out 7
   have bQ := blk_frozen aa.out 8
   go_wp2
   go_meet
   case rel => exact ⟨_, (false), (by first | rfl | (simp; done) | (simp [*]; done)), H', ⟨by first | omega | exact Nat.le_refl _⟩, ⟨by (with_reducible repeat (first | refine blk_drewN ?_ _ | refine blk_drew ?_ | refine blk_alloc ?_ _)); exact aa.out⟩, ⟨by repeat (first | (with_reducible first | exact HB.out | apply below_alloc | apply pw_below_drewN | apply below_drew1 | refine below_set ?_ al.out) | exact HB.out)⟩⟩
 case rest =>
  clear aD
  try clear c2
  try clear p2
  try clear c4
  try clear c6
  try clear aX
  try clear aY
  try clear aZ
  try clear a1
  try clear a2
  try clear a3
  try clear a4
  try clear a5
  try clear a6
  try clear bg
  try clear bh
  try clear bi
  try clear bj
  try clear bk
  try clear bl
  try clear bm
  try clear bn
  try clear bo
  try clear bz
  try clear bA
  try clear bB
  try clear bC
  try clear bD
  try clear bE
  try clear bF
  try clear bG
  try clear bH
  try clear aF
  try clear aG
  try clear aH
  try clear aI
  try clear aJ
  try clear aK
  try clear aL
  try clear aM
  try clear aN
  try clear a7
  try clear a8
  try clear a9
  try clear ba
  try clear bb
  try clear bc
  try clear bd
  try clear be
  try clear bf
  try clear bp
  try clear bq
  try clear br
  try clear bs
  try clear bt
  try clear bu
  try clear bv
  try clear bw
  try clear bx
  try clear bI
  try clear bJ
  try clear bK
  try clear bL
  try clear bM
  try clear bN
  try clear bO
  try clear bP
  try clear bQ
  try clear aO
  try clear aP
  try clear aQ
  try clear aR
  try clear aS
  try clear aT
  try clear aU
  try clear aV
  try clear aW
  obtain ⟨kq, aB, rfl, HA, HJ1, aa, HB⟩ := hcut
  cases kq with
  | zero => exact absurd HA.out (by simp [batonref20_May.j0])
  | succ kj1 =>
   have H := HA.out
   clear HA
   simp only [batonref20_May.j0] at H
   by_cases c14 : aB = true
   ·
    subst c14
    have H1 : (some false) = some r := by rw [if_pos rfl] at H; exact H
    clear H
    have H := H1
    clear H1
    obtain rfl := Option.some.inj H
    go_wp2
    go_ret
    exact ⟨by first | rfl | (simp [errW_none, errW_some] <;> rfl) | (simp [*, errW_none, errW_some] <;> rfl), by repeat (first | (with_reducible first | exact HB.out | apply below_alloc | apply pw_below_drewN | apply below_drew1 | refine below_set ?_ al.out) | exact HB.out)⟩
   ·
    replace c14 := Bool.eq_false_iff.mpr c14
    subst c14
    have H1 : (if ak = true then (batonref20_May.j1 kj1 false ac ad ae ai ak ag ah aj af) else (if ac.toList = ([] : List UInt8) then (if ad = 0 then (if ae = 0 then (if ai = true then (batonref20_May.j1 kj1 true ac ad ae ai ak ag ah aj af) else (batonref20_May.j1 kj1 (ag != 0) ac ad ae ai ak ag ah aj af)) else (batonref20_May.j1 kj1 true ac ad ae ai ak ag ah aj af)) else (batonref20_May.j1 kj1 true ac ad ae ai ak ag ah aj af)) else (batonref20_May.j1 kj1 true ac ad ae ai ak ag ah aj af))) = some r := by rw [if_neg (show ¬ (false = true) by decide)] at H; exact H
    clear H
    have H := H1
    clear H1
    have aE := Aside0.mk H
    clear H
    go_upto_region 3 with (fail)
    go_cut [47] (fun v47 wc => ∃ (kq : Nat) (aC : Bool), v47 = .bool aC ∧ Aside0 (batonref20_May.j1 kq aC ac ad ae ai ak ag ah aj af = some r) ∧ Aside0 (kq ≤ kj1) ∧ Aside0 (wc.heap[ab]? = some (.cells #[.string ac, .int .i64 ad, .int .i64 ae, .bool ai, .bool ak, .int .i64 ag, .int .i64 ah, .int .i64 aj, .int .i64 af] 27 (0, 0))) ∧ Aside0 (Below w.heap.size w wc))
    case first =>
     have H := aE.out
     clear aE
     by_cases c16 : ak = true
     ·
      subst c16
      have H1 : (batonref20_May.j1 kj1 false ac ad ae ai true ag ah aj af) = some r := by rw [if_pos rfl] at H; exact H
      clear H
      have H := H1
      clear H1
      have H' := Aside0.mk H
      clear H
      have bR : wc.cell? ⟨ab, 0, none⟩ = some (.string ac) := (blk_cell aa.out 0).trans rfl
      have bS : wc.cell? ⟨ab, 1, none⟩ = some (.int .i64 ad) := (blk_cell aa.out 1).trans rfl
      have bT : wc.cell? ⟨ab, 2, none⟩ = some (.int .i64 ae) := (blk_cell aa.out 2).trans rfl
      have bU : wc.cell? ⟨ab, 3, none⟩ = some (.bool ai) := (blk_cell aa.out 3).trans rfl
      have bV : wc.cell? ⟨ab, 4, none⟩ = some (.bool true) := (blk_cell aa.out 4).trans rfl
      have bW : wc.cell? ⟨ab, 5, none⟩ = some (.int .i64 ag) := (blk_cell aa.out 5).trans rfl
      have bX : wc.cell? ⟨ab, 6, none⟩ = some (.int .i64 ah) := (blk_cell aa.out 6).trans rfl
      have bY : wc.cell? ⟨ab, 7, none⟩ = some (.int .i64 aj) := (blk_cell aa.out 7).trans rfl
      have bZ : wc.cell? ⟨ab, 8, none⟩ = some (.int .i64 af) := (blk_cell aa.out 8).trans rfl
      have b0 := blk_frozen aa.out 0
      have b1 := blk_frozen aa.out 1
      have b2 := blk_frozen aa.out 2
      have b3 := blk_frozen aa.out 3
      have b4 := blk_frozen aa.out 4
      have b5 := blk_frozen aa.out 5
      have b6 := blk_frozen aa.out 6
      have b7 := blk_frozen aa.out 7
      have b8 := blk_frozen aa.out 8
      go_wp2
      go_meet
      case rel => exact ⟨_, (false), (by first | rfl | (simp; done) | (simp [*]; done)), H', ⟨by have := HJ1.out; first | omega | exact Nat.le_refl _⟩, ⟨by (with_reducible repeat (first | refine blk_drewN ?_ _ | refine blk_drew ?_ | refine blk_alloc ?_ _)); exact aa.out⟩, ⟨by repeat (first | (with_reducible first | exact HB.out | apply below_alloc | apply pw_below_drewN | apply below_drew1 | refine below_set ?_ al.out) | exact HB.out)⟩⟩
     ·
      replace c16 := Bool.eq_false_iff.mpr c16
      subst c16
      have H1 : (if ac.toList = ([] : List UInt8) then (if ad = 0 then (if ae = 0 then (if ai = true then (batonref20_May.j1 kj1 true ac ad ae ai false ag ah aj af) else (batonref20_May.j1 kj1 (ag != 0) ac ad ae ai false ag ah aj af)) else (batonref20_May.j1 kj1 true ac ad ae ai false ag ah aj af)) else (batonref20_May.j1 kj1 true ac ad ae ai false ag ah aj af)) else (batonref20_May.j1 kj1 true ac ad ae ai false ag ah aj af)) = some r := by rw [if_neg (show ¬ (false = true) by decide)] at H; exact H
      clear H
      have H := H1
      clear H1
      by_cases c18 : ac.toList = ([] : List UInt8)
      ·
       rw [if_pos c18] at H
       have c18b0 : (ac.toList == ([] : List UInt8)) = true := beq_iff_eq.mpr c18
       have c18b1 : (ac.toList != ([] : List UInt8)) = false := bne_eq_false_iff_eq.mpr c18
       clear c18
       (first | rw [c18b0] | (simp only [i64_w, i32_w]; rw [c18b0]) | skip)
       by_cases c19 : ad = 0
       ·
        rw [if_pos c19] at H
        have c19b0 : (ad == 0) = true := beq_iff_eq.mpr c19
        have c19b1 : (ad != 0) = false := bne_eq_false_iff_eq.mpr c19
        clear c19
        by_cases c20 : ae = 0
        ·
         rw [if_pos c20] at H
         have c20b0 : (ae == 0) = true := beq_iff_eq.mpr c20
         have c20b1 : (ae != 0) = false := bne_eq_false_iff_eq.mpr c20
         clear c20
         by_cases c21 : ai = true
         ·
          subst c21
          have H1 : (batonref20_May.j1 kj1 true ac ad ae true false ag ah aj af) = some r := by rw [if_pos rfl] at H; exact H
          clear H
          have H := H1
          clear H1
          have H' := Aside0.mk H
          clear H
          have b9 : wc.cell? ⟨ab, 0, none⟩ = some (.string ac) := (blk_cell aa.out 0).trans rfl
          have ca : wc.cell? ⟨ab, 1, none⟩ = some (.int .i64 ad) := (blk_cell aa.out 1).trans rfl
          have cb : wc.cell? ⟨ab, 2, none⟩ = some (.int .i64 ae) := (blk_cell aa.out 2).trans rfl
          have cc : wc.cell? ⟨ab, 3, none⟩ = some (.bool true) := (blk_cell aa.out 3).trans rfl
          have cd : wc.cell? ⟨ab, 4, none⟩ = some (.bool false) := (blk_cell aa.out 4).trans rfl
          have ce : wc.cell? ⟨ab, 5, none⟩ = some (.int .i64 ag) := (blk_cell aa.out 5).trans rfl
          have cf : wc.cell? ⟨ab, 6, none⟩ = some (.int .i64 ah) := (blk_cell aa.out 6).trans rfl
          have cg : wc.cell? ⟨ab, 7, none⟩ = some (.int .i64 aj) := (blk_cell aa.out 7).trans rfl
          have ch : wc.cell? ⟨ab, 8, none⟩ = some (.int .i64 af) := (blk_cell aa.out 8).trans rfl
          have ci := blk_frozen aa.out 0
          have cj := blk_frozen aa.out 1
          have ck := blk_frozen aa.out 2
          have cl := blk_frozen aa.out 3
          have cm := blk_frozen aa.out 4
          have cn := blk_frozen aa.out 5
          have co := blk_frozen aa.out 6
          have cp := blk_frozen aa.out 7
          have cq := blk_frozen aa.out 8
          go_wp2
          go_meet
          case rel => exact ⟨_, (true), (by first | rfl | (simp; done) | (simp [*]; done)), H', ⟨by have := HJ1.out; first | omega | exact Nat.le_refl _⟩, ⟨by (with_reducible repeat (first | refine blk_drewN ?_ _ | refine blk_drew ?_ | refine blk_alloc ?_ _)); exact aa.out⟩, ⟨by repeat (first | (with_reducible first | exact HB.out | apply below_alloc | apply pw_below_drewN | apply below_drew1 | refine below_set ?_ al.out) | exact HB.out)⟩⟩
         ·
          replace c21 := Bool.eq_false_iff.mpr c21
          subst c21
          have H1 : (batonref20_May.j1 kj1 (ag != 0) ac ad ae false false ag ah aj af) = some r := by rw [if_neg (show ¬ (false = true) by decide)] at H; exact H
          clear H
          have H := H1
          clear H1
          have H' := Aside0.mk H
          clear H
          have cr : wc.cell? ⟨ab, 0, none⟩ = some (.string ac) := (blk_cell aa.out 0).trans rfl
          have ct : wc.cell? ⟨ab, 1, none⟩ = some (.int .i64 ad) := (blk_cell aa.out 1).trans rfl
          have cu : wc.cell? ⟨ab, 2, none⟩ = some (.int .i64 ae) := (blk_cell aa.out 2).trans rfl
          have cv : wc.cell? ⟨ab, 3, none⟩ = some (.bool false) := (blk_cell aa.out 3).trans rfl
          have cw : wc.cell? ⟨ab, 4, none⟩ = some (.bool false) := (blk_cell aa.out 4).trans rfl
          have cx : wc.cell? ⟨ab, 5, none⟩ = some (.int .i64 ag) := (blk_cell aa.out 5).trans rfl
          have cy : wc.cell? ⟨ab, 6, none⟩ = some (.int .i64 ah) := (blk_cell aa.out 6).trans rfl
          have cz : wc.cell? ⟨ab, 7, none⟩ = some (.int .i64 aj) := (blk_cell aa.out 7).trans rfl
          have cA : wc.cell? ⟨ab, 8, none⟩ = some (.int .i64 af) := (blk_cell aa.out 8).trans rfl
          have cB := blk_frozen aa.out 0
          have cC := blk_frozen aa.out 1
          have cD := blk_frozen aa.out 2
          have cE := blk_frozen aa.out 3
          have cF := blk_frozen aa.out 4
          have cG := blk_frozen aa.out 5
          have cH := blk_frozen aa.out 6
          have cI := blk_frozen aa.out 7
          have cJ := blk_frozen aa.out 8
          go_wp2
          go_meet
          case rel => exact ⟨_, ((ag != 0)), (by first | rfl | (simp; done) | (simp [*]; done)), H', ⟨by have := HJ1.out; first | omega | exact Nat.le_refl _⟩, ⟨by (with_reducible repeat (first | refine blk_drewN ?_ _ | refine blk_drew ?_ | refine blk_alloc ?_ _)); exact aa.out⟩, ⟨by repeat (first | (with_reducible first | exact HB.out | apply below_alloc | apply pw_below_drewN | apply below_drew1 | refine below_set ?_ al.out) | exact HB.out)⟩⟩
        ·
         rw [if_neg c20] at H
         have c20b0 : (ae == 0) = false := beq_eq_false_iff_ne.mpr c20
         have c20b1 : (ae != 0) = true := bne_iff_ne.mpr c20
         have H' := Aside0.mk H
         clear H
         have cK : wc.cell? ⟨ab, 0, none⟩ = some (.string ac) := (blk_cell aa.out 0).trans rfl
         have cL : wc.cell? ⟨ab, 1, none⟩ = some (.int .i64 ad) := (blk_cell aa.out 1).trans rfl
         have cM : wc.cell? ⟨ab, 2, none⟩ = some (.int .i64 ae) := (blk_cell aa.out 2).trans rfl
         have cN : wc.cell? ⟨ab, 3, none⟩ = some (.bool ai) := (blk_cell aa.out 3).trans rfl
         have cO : wc.cell? ⟨ab, 4, none⟩ = some (.bool false) := (blk_cell aa.out 4).trans rfl
         have cP : wc.cell? ⟨ab, 5, none⟩ = some (.int .i64 ag) := (blk_cell aa.out 5).trans rfl
         have cQ : wc.cell? ⟨ab, 6, none⟩ = some (.int .i64 ah) := (blk_cell aa.out 6).trans rfl
         have cR : wc.cell? ⟨ab, 7, none⟩ = some (.int .i64 aj) := (blk_cell aa.out 7).trans rfl
         have cS : wc.cell? ⟨ab, 8, none⟩ = some (.int .i64 af) := (blk_cell aa.out 8).trans rfl
         have cT := blk_frozen aa.out 0
         have cU := blk_frozen aa.out 1
         have cV := blk_frozen aa.out 2
         have cW := blk_frozen aa.out 3
         have cX := blk_frozen aa.out 4
         have cY := blk_frozen aa.out 5
         have cZ := blk_frozen aa.out 6
         have c0 := blk_frozen aa.out 7
         have c3 := blk_frozen aa.out 8
         go_wp2
         go_meet
         case rel => exact ⟨_, (true), (by first | rfl | (simp; done) | (simp [*]; done)), H', ⟨by have := HJ1.out; first | omega | exact Nat.le_refl _⟩, ⟨by (with_reducible repeat (first | refine blk_drewN ?_ _ | refine blk_drew ?_ | refine blk_alloc ?_ _)); exact aa.out⟩, ⟨by repeat (first | (with_reducible first | exact HB.out | apply below_alloc | apply pw_below_drewN | apply below_drew1 | refine below_set ?_ al.out) | exact HB.out)⟩⟩
       ·
        rw [if_neg c19] at H
        have c19b0 : (ad == 0) = false := beq_eq_false_iff_ne.mpr c19
        have c19b1 : (ad != 0) = true := bne_iff_ne.mpr c19
        have H' := Aside0.mk H
        clear H
        have c5 : wc.cell? ⟨ab, 0, none⟩ = some (.string ac) := (blk_cell aa.out 0).trans rfl
        have c7 : wc.cell? ⟨ab, 1, none⟩ = some (.int .i64 ad) := (blk_cell aa.out 1).trans rfl
        have c8 : wc.cell? ⟨ab, 2, none⟩ = some (.int .i64 ae) := (blk_cell aa.out 2).trans rfl
        have c9 : wc.cell? ⟨ab, 3, none⟩ = some (.bool ai) := (blk_cell aa.out 3).trans rfl
        have da : wc.cell? ⟨ab, 4, none⟩ = some (.bool false) := (blk_cell aa.out 4).trans rfl
        have db : wc.cell? ⟨ab, 5, none⟩ = some (.int .i64 ag) := (blk_cell aa.out 5).trans rfl
        have dc : wc.cell? ⟨ab, 6, none⟩ = some (.int .i64 ah) := (blk_cell aa.out 6).trans rfl
        have dd : wc.cell? ⟨ab, 7, none⟩ = some (.int .i64 aj) := (blk_cell aa.out 7).trans rfl
        have de : wc.cell? ⟨ab, 8, none⟩ = some (.int .i64 af) := (blk_cell aa.out 8).trans rfl
        have df := blk_frozen aa.out 0
        have dg := blk_frozen aa.out 1
        have dh := blk_frozen aa.out 2
        have di := blk_frozen aa.out 3
        have dj := blk_frozen aa.out 4
        have dk := blk_frozen aa.out 5
        have dl := blk_frozen aa.out 6
        have dm := blk_frozen aa.out 7
        have dn := blk_frozen aa.out 8
        go_wp2
        go_meet
        case rel => exact ⟨_, (true), (by first | rfl | (simp; done) | (simp [*]; done)), H', ⟨by have := HJ1.out; first | omega | exact Nat.le_refl _⟩, ⟨by (with_reducible repeat (first | refine blk_drewN ?_ _ | refine blk_drew ?_ | refine blk_alloc ?_ _)); exact aa.out⟩, ⟨by repeat (first | (with_reducible first | exact HB.out | apply below_alloc | apply pw_below_drewN | apply below_drew1 | refine below_set ?_ al.out) | exact HB.out)⟩⟩
      ·
       rw [if_neg c18] at H
       have c18b0 : (ac.toList == ([] : List UInt8)) = false := beq_eq_false_iff_ne.mpr c18
       have c18b1 : (ac.toList != ([] : List UInt8)) = true := bne_iff_ne.mpr c18
       (first | rw [c18b0] | (simp only [i64_w, i32_w]; rw [c18b0]) | skip)
       have H' := Aside0.mk H
       clear H
       have dp : wc.cell? ⟨ab, 0, none⟩ = some (.string ac) := (blk_cell aa.out 0).trans rfl
       have dq : wc.cell? ⟨ab, 1, none⟩ = some (.int .i64 ad) := (blk_cell aa.out 1).trans rfl
       have dr : wc.cell? ⟨ab, 2, none⟩ = some (.int .i64 ae) := (blk_cell aa.out 2).trans rfl
       have ds : wc.cell? ⟨ab, 3, none⟩ = some (.bool ai) := (blk_cell aa.out 3).trans rfl
       have dt : wc.cell? ⟨ab, 4, none⟩ = some (.bool false) := (blk_cell aa.out 4).trans rfl
       have du : wc.cell? ⟨ab, 5, none⟩ = some (.int .i64 ag) := (blk_cell aa.out 5).trans rfl
       have dv : wc.cell? ⟨ab, 6, none⟩ = some (.int .i64 ah) := (blk_cell aa.out 6).trans rfl
       have dw : wc.cell? ⟨ab, 7, none⟩ = some (.int .i64 aj) := (blk_cell aa.out 7).trans rfl
       have dx : wc.cell? ⟨ab, 8, none⟩ = some (.int .i64 af) := (blk_cell aa.out 8).trans rfl
       have dy := blk_frozen aa.out 0
       have dz := blk_frozen aa.out 1
       have dA := blk_frozen aa.out 2
       have dB := blk_frozen aa.out 3
       have dC := blk_frozen aa.out 4
       have dD := blk_frozen aa.out 5
       have dE := blk_frozen aa.out 6
       have dF := blk_frozen aa.out 7
       have dG := blk_frozen aa.out 8
       go_wp2
       go_meet
       case rel => exact ⟨_, (true), (by first | rfl | (simp; done) | (simp [*]; done)), H', ⟨by have := HJ1.out; first | omega | exact Nat.le_refl _⟩, ⟨by (with_reducible repeat (first | refine blk_drewN ?_ _ | refine blk_drew ?_ | refine blk_alloc ?_ _)); exact aa.out⟩, ⟨by repeat (first | (with_reducible first | exact HB.out | apply below_alloc | apply pw_below_drewN | apply below_drew1 | refine below_set ?_ al.out) | exact HB.out)⟩⟩
    case rest =>
     clear aE
     try clear c1
     try clear c2
     try clear p2
     try clear c4
     try clear c6
     try clear c14
     try clear c16
     try clear c18
     try clear c18b0
     try clear c18b1
     try clear c19
     try clear c19b0
     try clear c19b1
     try clear c20
     try clear c20b0
     try clear c20b1
     try clear c21
     try clear aX
     try clear aY
     try clear aZ
     try clear a1
     try clear a2
     try clear a3
     try clear a4
     try clear a5
     try clear a6
     try clear bg
     try clear bh
     try clear bi
     try clear bj
     try clear bk
     try clear bl
     try clear bm
     try clear bn
     try clear bo
     try clear bz
     try clear bA
     try clear bB
     try clear bC
     try clear bD
     try clear bE
     try clear bF
     try clear bG
     try clear bH
     try clear bR
     try clear bS
     try clear bT
     try clear bU
     try clear bV
     try clear bW
     try clear bX
     try clear bY
     try clear bZ
     try clear b9
     try clear ca
     try clear cb
     try clear cc
     try clear cd
     try clear ce
     try clear cf
     try clear cg
     try clear ch
     try clear cr
     try clear ct
     try clear cu
     try clear cv
     try clear cw
     try clear cx
     try clear cy
     try clear cz
     try clear cA
     try clear cK
     try clear cL
     try clear cM
     try clear cN
     try clear cO
     try clear cP
     try clear cQ
     try clear cR
     try clear cS
     try clear c5
     try clear c7
     try clear c8
     try clear c9
     try clear da
     try clear db
     try clear dc
     try clear dd
     try clear de
     try clear dp
     try clear dq
     try clear dr
     try clear ds
     try clear dt
     try clear du
     try clear dv
     try clear dw
     try clear dx
     try clear aF
     try clear aG
     try clear aH
     try clear aI
     try clear aJ
     try clear aK
     try clear aL
     try clear aM
     try clear aN
     try clear a7
     try clear a8
     try clear a9
     try clear ba
     try clear bb
     try clear bc
     try clear bd
     try clear be
     try clear bf
     try clear bp
     try clear bq
     try clear br
     try clear bs
     try clear bt
     try clear bu
     try clear bv
     try clear bw
     try clear bx
     try clear bI
     try clear bJ
     try clear bK
     try clear bL
     try clear bM
     try clear bN
     try clear bO
     try clear bP
     try clear bQ
     try clear b0
     try clear b1
     try clear b2
     try clear b3
     try clear b4
     try clear b5
     try clear b6
     try clear b7
     try clear b8
     try clear ci
     try clear cj
     try clear ck
     try clear cl
     try clear cm
     try clear cn
     try clear co
     try clear cp
     try clear cq
     try clear cB
     try clear cC
     try clear cD
     try clear cE
     try clear cF
     try clear cG
     try clear cH
     try clear cI
     try clear cJ
     try clear cT
     try clear cU
     try clear cV
     try clear cW
     try clear cX
     try clear cY
     try clear cZ
     try clear c0
     try clear c3
     try clear df
     try clear dg
     try clear dh
     try clear di
     try clear dj
     try clear dk
     try clear dl
     try clear dm
     try clear dn
     try clear dy
     try clear dz
     try clear dA
     try clear dB
     try clear dC
     try clear dD
     try clear dE
     try clear dF
     try clear dG
     try clear aO
     try clear aP
     try clear aQ
     try clear aR
     try clear aS
     try clear aT
     try clear aU
     try clear aV
     try clear aW
     try clear p2
     obtain ⟨kq, aC, rfl, HA, HJ14, aa, HB⟩ := hcut
     cases kq with
     | zero => exact absurd HA.out (by simp [batonref20_May.j1])
     | succ kj14 =>
      have H := HA.out
      clear HA
      simp only [batonref20_May.j1] at H
      by_cases c27 : aC = true
      ·
       subst c27
       have H1 : (some false) = some r := by rw [if_pos rfl] at H; exact H
       clear H
       have H := H1
       clear H1
       obtain rfl := Option.some.inj H
       go_wp2
       go_ret
       exact ⟨by first | rfl | (simp [errW_none, errW_some] <;> rfl) | (simp [*, errW_none, errW_some] <;> rfl), by repeat (first | (with_reducible first | exact HB.out | apply below_alloc | apply pw_below_drewN | apply below_drew1 | refine below_set ?_ al.out) | exact HB.out)⟩
      ·
       replace c27 := Bool.eq_false_iff.mpr c27
       subst c27
       have H1 : (if af = 0 then (if ah = 0 then (some (aj == 0)) else (some false)) else ((batonref20_mod.f af).bind fun aA => (if aA = true then ((batonref18_MayTenant.f ah aj).bind fun an => (some an)) else (some false)))) = some r := by rw [if_neg (show ¬ (false = true) by decide)] at H; exact H
       clear H
       have H := H1
       clear H1
       by_cases c28 : af = 0
       ·
        rw [if_pos c28] at H
        have c28b0 : (af == 0) = true := beq_iff_eq.mpr c28
        have c28b1 : (af != 0) = false := bne_eq_false_iff_eq.mpr c28
        clear c28
        by_cases c29 : ah = 0
        ·
         rw [if_pos c29] at H
         have c29b0 : (ah == 0) = true := beq_iff_eq.mpr c29
         have c29b1 : (ah != 0) = false := bne_eq_false_iff_eq.mpr c29
         clear c29
         obtain rfl := Option.some.inj H
         have dH : wc.cell? ⟨ab, 0, none⟩ = some (.string ac) := (blk_cell aa.out 0).trans rfl
         have dI : wc.cell? ⟨ab, 1, none⟩ = some (.int .i64 ad) := (blk_cell aa.out 1).trans rfl
         have dJ : wc.cell? ⟨ab, 2, none⟩ = some (.int .i64 ae) := (blk_cell aa.out 2).trans rfl
         have dK : wc.cell? ⟨ab, 3, none⟩ = some (.bool ai) := (blk_cell aa.out 3).trans rfl
         have dL : wc.cell? ⟨ab, 4, none⟩ = some (.bool ak) := (blk_cell aa.out 4).trans rfl
         have dM : wc.cell? ⟨ab, 5, none⟩ = some (.int .i64 ag) := (blk_cell aa.out 5).trans rfl
         have dN : wc.cell? ⟨ab, 6, none⟩ = some (.int .i64 ah) := (blk_cell aa.out 6).trans rfl
         have dO : wc.cell? ⟨ab, 7, none⟩ = some (.int .i64 aj) := (blk_cell aa.out 7).trans rfl
         have dP : wc.cell? ⟨ab, 8, none⟩ = some (.int .i64 af) := (blk_cell aa.out 8).trans rfl
         have dQ := blk_frozen aa.out 0
         have dR := blk_frozen aa.out 1
         have dS := blk_frozen aa.out 2
         have dT := blk_frozen aa.out 3
         have dU := blk_frozen aa.out 4
         have dV := blk_frozen aa.out 5
         have dW := blk_frozen aa.out 6
         have dX := blk_frozen aa.out 7
         have dY := blk_frozen aa.out 8
         go_wp2
         go_ret
         exact ⟨by first | rfl | (simp [errW_none, errW_some] <;> rfl) | (simp [*, errW_none, errW_some] <;> rfl), by repeat (first | (with_reducible first | exact HB.out | apply below_alloc | apply pw_below_drewN | apply below_drew1 | refine below_set ?_ al.out) | exact HB.out)⟩
        ·
         rw [if_neg c29] at H
         have c29b0 : (ah == 0) = false := beq_eq_false_iff_ne.mpr c29
         have c29b1 : (ah != 0) = true := bne_iff_ne.mpr c29
         obtain rfl := Option.some.inj H
         have dZ : wc.cell? ⟨ab, 0, none⟩ = some (.string ac) := (blk_cell aa.out 0).trans rfl
         have d0 : wc.cell? ⟨ab, 1, none⟩ = some (.int .i64 ad) := (blk_cell aa.out 1).trans rfl
         have d1 : wc.cell? ⟨ab, 2, none⟩ = some (.int .i64 ae) := (blk_cell aa.out 2).trans rfl
         have d2 : wc.cell? ⟨ab, 3, none⟩ = some (.bool ai) := (blk_cell aa.out 3).trans rfl
         have d3 : wc.cell? ⟨ab, 4, none⟩ = some (.bool ak) := (blk_cell aa.out 4).trans rfl
         have d4 : wc.cell? ⟨ab, 5, none⟩ = some (.int .i64 ag) := (blk_cell aa.out 5).trans rfl
         have d5 : wc.cell? ⟨ab, 6, none⟩ = some (.int .i64 ah) := (blk_cell aa.out 6).trans rfl
         have d6 : wc.cell? ⟨ab, 7, none⟩ = some (.int .i64 aj) := (blk_cell aa.out 7).trans rfl
         have d7 : wc.cell? ⟨ab, 8, none⟩ = some (.int .i64 af) := (blk_cell aa.out 8).trans rfl
         have d8 := blk_frozen aa.out 0
         have d9 := blk_frozen aa.out 1
         have ea := blk_frozen aa.out 2
         have eb := blk_frozen aa.out 3
         have ec := blk_frozen aa.out 4
         have ed := blk_frozen aa.out 5
         have ee := blk_frozen aa.out 6
         have ef := blk_frozen aa.out 7
         have eg := blk_frozen aa.out 8
         go_wp2
         go_ret
         exact ⟨by first | rfl | (simp [errW_none, errW_some] <;> rfl) | (simp [*, errW_none, errW_some] <;> rfl), by repeat (first | (with_reducible first | exact HB.out | apply below_alloc | apply pw_below_drewN | apply below_drew1 | refine below_set ?_ al.out) | exact HB.out)⟩
       ·
        rw [if_neg c28] at H
        have c28b0 : (af == 0) = false := beq_eq_false_iff_ne.mpr c28
        have c28b1 : (af != 0) = true := bne_iff_ne.mpr c28
        replace H := Option.bind_eq_some_iff.mp H
        obtain ⟨aA, A320, H⟩ := H
        replace H : (if aA = true then ((batonref18_MayTenant.f ah aj).bind fun an => (some an)) else (some false)) = some r := H
        have A32 := Aside0.mk A320
        clear A320
        by_cases c33 : aA = true
        ·
         subst c33
         have H1 : ((batonref18_MayTenant.f ah aj).bind fun an => (some an)) = some r := by rw [if_pos rfl] at H; exact H
         clear H
         have H := H1
         clear H1
         replace H := Option.bind_eq_some_iff.mp H
         obtain ⟨an, A340, H⟩ := H
         replace H : (some an) = some r := H
         have A34 := Aside0.mk A340
         clear A340
         obtain rfl := Option.some.inj H
         have eh : wc.cell? ⟨ab, 0, none⟩ = some (.string ac) := (blk_cell aa.out 0).trans rfl
         have ei : wc.cell? ⟨ab, 1, none⟩ = some (.int .i64 ad) := (blk_cell aa.out 1).trans rfl
         have ej : wc.cell? ⟨ab, 2, none⟩ = some (.int .i64 ae) := (blk_cell aa.out 2).trans rfl
         have ek : wc.cell? ⟨ab, 3, none⟩ = some (.bool ai) := (blk_cell aa.out 3).trans rfl
         have el : wc.cell? ⟨ab, 4, none⟩ = some (.bool ak) := (blk_cell aa.out 4).trans rfl
         have em : wc.cell? ⟨ab, 5, none⟩ = some (.int .i64 ag) := (blk_cell aa.out 5).trans rfl
         have en : wc.cell? ⟨ab, 6, none⟩ = some (.int .i64 ah) := (blk_cell aa.out 6).trans rfl
         have eo : wc.cell? ⟨ab, 7, none⟩ = some (.int .i64 aj) := (blk_cell aa.out 7).trans rfl
         have ep : wc.cell? ⟨ab, 8, none⟩ = some (.int .i64 af) := (blk_cell aa.out 8).trans rfl
         have eq := blk_frozen aa.out 0
         have er := blk_frozen aa.out 1
         have es := blk_frozen aa.out 2
         have et := blk_frozen aa.out 3
         have eu := blk_frozen aa.out 4
         have ev := blk_frozen aa.out 5
         have ew := blk_frozen aa.out 6
         have ex := blk_frozen aa.out 7
         have ey := blk_frozen aa.out 8
         go_wp2_with (first | ((with_reducible refine gate_callee (f := 114) rfl ?_); refine goesL_ (some 63) rfl rfl Try.func114 (by kernel_rfl) rfl #[.int .i64 af] rfl (by (try simp only [List.map_toArray, List.map_cons, List.map_nil]); first | done | rfl | (simp only [List.length_drop, List.length_take]; rfl)) ?_; (with_reducible refine (batonref20_mod.calls af true _ A32.out).mono ?_); rintro e w' ⟨rfl, ⟨nd, rfl⟩⟩; refine ⟨_, rfl, ?_⟩) | (go_at_call 88; (with_reducible refine (batonref18_MayTenant.calls ah aj an _ A34.out).mono ?_); rintro e w36 ⟨rfl, hb⟩; have n0_ := Aside0.mk (blk_below (g := ab) (o := .cells #[.string ac, .int .i64 ad, .int .i64 ae, .bool ai, .bool ak, .int .i64 ag, .int .i64 ah, .int .i64 aj, .int .i64 af] 27 (0, 0)) (by (with_reducible repeat (first | refine blk_drewN ?_ _ | refine blk_drew ?_ | refine blk_alloc ?_ _)); exact aa.out) hb); have n1_ := Aside0.mk (below_step (by repeat (first | (with_reducible first | exact HB.out | apply below_alloc | apply pw_below_drewN | apply below_drew1 | refine below_set ?_ al.out) | exact HB.out)) hb); clear aa; clear HB; have aa := n0_; have HB := n1_; clear n0_ n1_; (try clear hb); (try clear hb2); (try clear hk); (try clear hi)))
         go_ret
         exact ⟨by first | rfl | (simp [errW_none, errW_some] <;> rfl) | (simp [*, errW_none, errW_some] <;> rfl), by repeat (first | (with_reducible first | exact HB.out | apply below_alloc | apply pw_below_drewN | apply below_drew1 | refine below_set ?_ al.out) | exact HB.out)⟩
        ·
         replace c33 := Bool.eq_false_iff.mpr c33
         subst c33
         have H1 : (some false) = some r := by rw [if_neg (show ¬ (false = true) by decide)] at H; exact H
         clear H
         have H := H1
         clear H1
         obtain rfl := Option.some.inj H
         have ez : wc.cell? ⟨ab, 0, none⟩ = some (.string ac) := (blk_cell aa.out 0).trans rfl
         have eA : wc.cell? ⟨ab, 1, none⟩ = some (.int .i64 ad) := (blk_cell aa.out 1).trans rfl
         have eB : wc.cell? ⟨ab, 2, none⟩ = some (.int .i64 ae) := (blk_cell aa.out 2).trans rfl
         have eC : wc.cell? ⟨ab, 3, none⟩ = some (.bool ai) := (blk_cell aa.out 3).trans rfl
         have eD : wc.cell? ⟨ab, 4, none⟩ = some (.bool ak) := (blk_cell aa.out 4).trans rfl
         have eE : wc.cell? ⟨ab, 5, none⟩ = some (.int .i64 ag) := (blk_cell aa.out 5).trans rfl
         have eF : wc.cell? ⟨ab, 6, none⟩ = some (.int .i64 ah) := (blk_cell aa.out 6).trans rfl
         have eG : wc.cell? ⟨ab, 7, none⟩ = some (.int .i64 aj) := (blk_cell aa.out 7).trans rfl
         have eH : wc.cell? ⟨ab, 8, none⟩ = some (.int .i64 af) := (blk_cell aa.out 8).trans rfl
         have eI := blk_frozen aa.out 0
         have eJ := blk_frozen aa.out 1
         have eK := blk_frozen aa.out 2
         have eL := blk_frozen aa.out 3
         have eM := blk_frozen aa.out 4
         have eN := blk_frozen aa.out 5
         have eO := blk_frozen aa.out 6
         have eP := blk_frozen aa.out 7
         have eQ := blk_frozen aa.out 8
         go_wp2_with (first | ((with_reducible refine gate_callee (f := 114) rfl ?_); refine goesL_ (some 63) rfl rfl Try.func114 (by kernel_rfl) rfl #[.int .i64 af] rfl (by (try simp only [List.map_toArray, List.map_cons, List.map_nil]); first | done | rfl | (simp only [List.length_drop, List.length_take]; rfl)) ?_; (with_reducible refine (batonref20_mod.calls af false _ A32.out).mono ?_); rintro e w' ⟨rfl, ⟨nd, rfl⟩⟩; refine ⟨_, rfl, ?_⟩))
         go_ret
         exact ⟨by first | rfl | (simp [errW_none, errW_some] <;> rfl) | (simp [*, errW_none, errW_some] <;> rfl), by repeat (first | (with_reducible first | exact HB.out | apply below_alloc | apply pw_below_drewN | apply below_drew1 | refine below_set ?_ al.out) | exact HB.out)⟩
end Go.Proofs.Ytobanhbjkomieaa.PEl
