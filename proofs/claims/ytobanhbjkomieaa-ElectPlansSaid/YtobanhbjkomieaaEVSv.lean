import Derived.Test.YtobanhbjkomieaaEUSv
import Derived.Test.YtobanhbjkomieaaPElx0Sv
import Derived.Test.YtobanhbjkomieaaPElx1Sv
import Derived.Test.YtobanhbjkomieaaPElx2Sv
import Derived.Test.YtobanhbjkomieaaPElx3Sv
import Derived.Test.YtobanhbjkomieaaPElx4Sv
import Derived.Test.YtobanhbjkomieaaPElx5Sv
import Derived.Test.YtobanhbjkomieaaPElx6Sv
import Derived.Test.YtobanhbjkomieaaPElx7Sv
import Derived.Test.YtobanhbjkomieaaPElx8Sv
import Derived.Test.YtobanhbjkomieaaPElx9Sv
namespace Go.Proofs.Ytobanhbjkomieaa.RP
open Go.RowKit Go.Proofs.Ytobanhbjkomieaa.PAll Go.Proofs.Ytobanhbjkomieaa.KP Go.Proofs.Ytobanhbjkomieaa.BP Go.Proofs.YtobanhbjkomieaaW.PrintWords Go.Proofs.YtobanhbjkomieaaW.PrintLast Go.Proofs.YtobanhbjkomieaaW.PrintMore
set_option linter.unusedSimpArgs false
set_option linter.unusedVariables false
section
variable (rep : ByteArray) (hr : rep.size ≤ 140737488351232) (ep tm : Int) (gone there : Bool) (mod live eps tmod : Int) (t c r : ByteArray) (ht : t.size ≤ 140737488351232) (hc : c.size ≤ 140737488351232) (hrr : r.size ≤ 140737488351232) (now lim : Int)
theorem rLive_f : PEl.batonref20_Live.f rep ep tm gone there mod live eps tmod = some (there && !gone) := by
 unfold PEl.batonref20_Live.f
 cases there <;> cases gone <;> simp
theorem rMod_f (n : Int) : PEl.batonref20_mod.f n = some (modK n) := by
 unfold PEl.batonref20_mod.f modK
 split
 ·
  congr 1; rw [Bool.eq_iff_iff]; simp; omega
 ·
  congr 1; symm; rw [Bool.eq_false_iff]; simp; omega
include hr in
theorem rMay_f (n : Nat) : PEl.batonref20_May.f (n + 2) rep ep tm gone there mod live eps tmod = some (mayKn rep ep tm gone there mod live eps tmod) := by
 have hj1 : ∀ b, PEl.batonref20_May.j1 (n + 1) b rep ep tm gone there mod live eps tmod = some (!b && (if tmod = 0 then live == 0 && eps == 0 else modK tmod && mayTen live eps)) := by
  intro b
  unfold PEl.batonref20_May.j1
  cases b
  ·
   simp only [Bool.false_eq_true, if_false, Bool.not_false, Bool.true_and, rMod_f, Option.bind_some, PEl.batonref18_MayTenant.f]
   by_cases h0 : tmod = 0
   ·
    simp only [h0, if_true]
    by_cases h1 : live = 0
    ·
     simp [h1]
    ·
     simp [h1]
   ·
    simp only [h0, if_false]
    cases modK tmod <;> simp
  ·
   simp
 have hz : zeroR rep ep tm gone = (decide (rep.toList = []) && (decide (ep = 0) && (decide (tm = 0) && !gone))) := by
  unfold zeroR
  rw [Bool.eq_iff_iff]
  simp [and_assoc]
 unfold PEl.batonref20_May.f mayKn PEl.batonref18_May.f
 cases there
 ·
  simp only [Bool.false_eq_true, if_false, PEl.batonref20_May.j0, hz]
  by_cases h1 : rep.toList = []
  ·
   by_cases h2 : ep = 0
   ·
    by_cases h3 : tm = 0
    ·
     cases gone
     ·
      simp only [h1, h2, h3, if_true, if_false, Bool.false_eq_true, decide_true, Bool.not_false, Bool.and_self, Bool.true_and]
      have := hj1 (mod != 0)
      simp only [h2, h3] at this
      rw [this]
      simp [bne]
     ·
      have := hj1 true
      simp only [h2, h3] at this
      simp [h1, h2, h3, this]
    ·
     have := hj1 true
     simp only [h2] at this
     simp [h1, h2, h3, this]
   ·
    simp [h1, h2, hj1 true]
  ·
   simp [h1, hj1 true]
 ·
  simp only [if_true, hr, Option.bind_some, rMod_f, PEl.batonref20_May.j0]
  cases mayRec rep ep tm <;> cases modK mod <;> simp [hj1]
include ht hc in
theorem rWrong_f : PEl.batonref20_wrong.f t c now = some (!argOk t c now) := by
 unfold PEl.batonref20_wrong.f PEl.batonref11_Name.f argOk
 simp only [ht, hc, if_true, Option.bind_some]
 cases isName t.data.toList
 ·
  simp
 ·
  cases isName c.data.toList
  ·
   simp
  ·
   simp only [if_true, Bool.true_and]
   split
   ·
    congr 1; symm; simp; omega
   ·
    congr 1; rw [Bool.eq_iff_iff]; simp; omega
include ht hc in
theorem rConds_f (both : Bool) : PEl.batonref20_conds.f rep ep tm gone there mod live eps tmod t c both = some (⟨ck t c, mod⟩ :: if both then [⟨tk t, tmod⟩] else []) := by
 unfold PEl.batonref20_conds.f PEl.batonref11_Cluster.f PEl.batonref11_Tenant.f ck tk
 simp only [ht, hc, and_self, if_true, Option.bind_some]
 cases both <;> simp
include ht hc in
theorem rPuts_f (rep : ByteArray) (hr : rep.size ≤ 140737488351232) (ep tm : Int) (gone : Bool) : PEl.batonref20_puts.f t c rep ep tm gone = some (false, ck t c, rv rep ep tm gone) := by
 unfold PEl.batonref20_puts.f PEl.batonref11_Cluster.f PEl.batonref18_Encode.f ck rv
 simp only [ht, hc, hr, and_self, if_true, Option.bind_some]
include ht in
theorem rPutsT_f (live eps : Int) : PEl.batonref20_putsTenant.f t live eps = some (false, tk t, tv live eps) := by
 unfold PEl.batonref20_putsTenant.f PEl.batonref11_Tenant.f PEl.batonref18_EncodeTenant.f tk tv
 simp only [ht, if_true, Option.bind_some]
include hr ht hc in
theorem rRenew_f : PEl.batonref20_Renew.f 2 rep ep tm gone there mod live eps tmod t c now = some (renewO rep ep tm gone there mod live eps tmod t c now) := by
 unfold PEl.batonref20_Renew.f renewO staleE
 simp only [rWrong_f t c ht hc, rMay_f rep hr, rLive_f, PEl.batonref20_Renew.j0, rConds_f _ _ _ _ _ _ _ _ _ t c ht hc, rPuts_f t c ht hc _ hr, Option.bind_some, Nat.zero_add]
 cases argOk t c now
 ·
  simp
 ·
  cases mayKn rep ep tm gone there mod live eps tmod
  ·
   simp
  ·
   cases there <;> cases gone <;> simp
   split <;> simp_all
include hr ht hc in
theorem rBury_f : PEl.batonref20_Bury.f 2 rep ep tm gone there mod live eps tmod t c now = some (buryO rep ep tm gone there mod live eps tmod t c now) := by
 unfold PEl.batonref20_Bury.f buryO buryE staleE
 simp only [rWrong_f t c ht hc, rMay_f rep hr, rLive_f, PEl.batonref20_Bury.j0, rConds_f _ _ _ _ _ _ _ _ _ t c ht hc, rPuts_f t c ht hc _ hr, rPutsT_f t ht, Option.bind_some]
 cases argOk t c now
 ·
  simp
 ·
  cases hm : mayKn rep ep tm gone there mod live eps tmod
  ·
   simp
  ·
   obtain ⟨hb1, hb2⟩ := mayKn_bd hm
   cases there <;> cases gone <;> simp
   by_cases h0 : live = 0
   ·
    simp [h0]
   ·
    have hw : wrap64 (live - 1) = live - 1 := by unfold wrap64; omega
    rw [hw]
    simp [h0]
    split <;> simp_all
include hr ht hc in
theorem rSweep_f : PEl.batonref20_Sweep.f 2 rep ep tm gone there mod live eps tmod t c = some (sweepO rep ep tm gone there mod live eps tmod t c) := by
 unfold PEl.batonref20_Sweep.f sweepO sweepE
 simp only [rWrong_f t c ht hc, rMay_f rep hr, PEl.batonref20_Sweep.j0, rConds_f _ _ _ _ _ _ _ _ _ t c ht hc, Option.bind_some, PEl.batonref11_Cluster.f, ht, hc, and_self, if_true]
 cases argOk t c 0
 ·
  simp
 ·
  cases mayKn rep ep tm gone there mod live eps tmod
  ·
   simp
  ·
   cases there <;> cases gone <;> simp [ck]
include hr ht hc hrr in
theorem rElect_f : PEl.batonref20_Elect.f 5 rep ep tm gone there mod live eps tmod t c r now lim = some (electO rep ep tm gone there mod live eps tmod t c r now lim) := by
 unfold PEl.batonref20_Elect.f electO crowdE PEl.batonref11_Name.f
 simp only [rWrong_f t c ht hc, rMay_f rep hr, rLive_f, PEl.batonref20_Elect.j0, PEl.batonref20_Elect.j1, PEl.batonref20_Elect.j2, rConds_f _ _ _ _ _ _ _ _ _ t c ht hc, rPuts_f t c ht hc _ hrr, rPutsT_f t ht, Option.bind_some, hrr, if_true]
 cases argOk t c now
 ·
  simp
 ·
  cases isName r.data.toList
  ·
   simp
  ·
   by_cases hl : lim < 1
   ·
    have : ¬ 1 ≤ lim := by omega
    simp [hl, this]
   ·
    have hl' : 1 ≤ lim := by omega
    cases hm : mayKn rep ep tm gone there mod live eps tmod
    ·
     simp [hl, hl']
    ·
     obtain ⟨hb1, hb2⟩ := mayKn_bd hm
     have hw1 : wrap64 (live + 1) = live + 1 := by unfold wrap64; omega
     have hw2 : wrap64 (eps + 1) = eps + 1 := by unfold wrap64; omega
     rw [hw1, hw2]
     have hge : eps ≥ 1099511627776 ↔ eps = 1099511627776 := by omega
     have hgl : live ≥ 1048576 ↔ live = 1048576 := by omega
     cases hv : (there && !gone)
     ·
      simp [hl, hl', hge, hgl]
      by_cases h1 : lim ≤ live
      ·
       simp [h1]
      ·
       simp [h1]
       by_cases h2 : eps = 1099511627776
       ·
        simp [h2]
       ·
        by_cases h3 : live = 1048576
        ·
         simp [h2, h3]
        ·
         simp [h2, h3]
     ·
      simp [hl, hl', hge, hgl]
      by_cases h2 : eps = 1099511627776
      ·
       simp [h2]
      ·
       simp [h2]
end
end Go.Proofs.Ytobanhbjkomieaa.RP
