import Derived.Test.YtobanhbjkomieaaTHSa
import Derived.RangeFuncKeeps
import Derived.RangeFuncBound
import Derived.RangeFuncLeaves
import Derived.RangeFuncFrom
import Derived.RangeFuncBox
import Derived.Shelf.Abstract
import Derived.OwnWalkIn
import Derived.TacticsInMore
import Derived.LoopNIn
section
namespace Go.Proofs.Ytobanhbjkomieaa.TA
open Go Go.RowKit Go.Proofs.Ytobanhbjkomieaa.KP Go.Proofs.YtobanhbjkomieaaW.PrintWords Go.Proofs.YtobanhbjkomieaaW.PrintLast Go.Proofs.YtobanhbjkomieaaW.PrintMore
open Go.Proofs.Ytobanhbjkomieaa.RP (wTake wSkip wOne wpAnyH_cast keep_cell below_next0)
set_option linter.unusedSimpArgs false
set_option linter.unusedVariables false
abbrev trC (t : AT) (m : Md) (ad : Option Addr) (c : Nat) : Array Value := #[.pointer t.adr, .int .i64 (m.row.length : Int), .int .i64 m.rev, .int .i64 m.low, .slice ad m.hap.length c]
structure At (W : World) (tb : Nat) (t : AT) (m : Md) (ad : Option Addr) (c : Nat) : Prop where
  blk : W.heap[tb]? = some (.cells (trC t m ad c) 166 (0, 0))
  ins : t.In W
  tall : t.Tall
  row : t.row = m.row
  hap : Kd.C kEvt W ad m.hap.length m.hap
  cap : m.hap.length ≤ c
  ok : Ok m
theorem At.below {W W' : World} {tb : Nat} {t : AT} {m : Md} {ad : Option Addr} {c : Nat} (h : At W tb t m ad c) (hb : Below W.heap.size W W') : At W' tb t m ad c :=
  ⟨(hb.block _ (blk_lt h.blk)).trans h.blk, h.ins.below hb, h.tall, h.row, Kd.C_below h.hap hb, h.cap, h.ok⟩
theorem At.srt {W : World} {tb : Nat} {t : AT} {m : Md} {ad : Option Addr} {c : Nat} (h : At W tb t m ad c) : Srt t.row := by rw [h.row]; exact h.ok.srt
set_option maxHeartbeats 2000000 in
set_option maxRecDepth 100000 in
theorem rev_any (tb : Nat) (t : AT) (m : Md) (ad : Option Addr) (c : Nat) (w : World) (hT : At w tb t m ad c) : Calls Try.prog 41 #[.pointer (some ⟨tb, 0, none⟩)] w fun e w' => e = .returned (.int .i64 m.rev) ∧ Below w.heap.size w w' := by
  have z : w.cell? ⟨tb, 2, none⟩ = some (.int .i64 m.rev) := (blk_cell hT.blk 2).trans rfl
  clear hT
  go_enter Try.func41, Try.ntmps41
  go_wp2
  go_ret
  exact ⟨rfl, Below.refl _ _⟩
set_option maxHeartbeats 2000000 in
set_option maxRecDepth 100000 in
theorem treeGet_any (tb : Nat) (t : AT) (m : Md) (ad : Option Addr) (c : Nat) (w : World) (hT : At w tb t m ad c) (k : ByteArray) : Calls Try.prog 46 #[.pointer (some ⟨tb, 0, none⟩), .string k] w fun e w' => e = .returned (.tuple #[entV (getD k m.row), .bool (getL k m.row).isSome]) ∧ Below w.heap.size w w' := by
  have hg := fun W hW => get_any t k W hW hT.srt
  rw [hT.row] at hg
  generalize getD k m.row = x at *
  generalize (getL k m.row).isSome = b at *
  have HG := Lib.hid hg
  have z : w.cell? ⟨tb, 0, none⟩ = some (.pointer t.adr) := (blk_cell hT.blk 0).trans rfl
  have lz := blk_lt hT.blk
  have IT := Lib.hid hT.ins
  clear hg hT
  go_enter Try.func46, Try.ntmps46
  go_wp2_with fail
  have Bw := below_alloc (Below.refl w.heap.size w) (.cells #[.string ⟨#[]⟩, .string ⟨#[]⟩, .int .i64 0, .int .i64 0] 62)
  refine (HG.out _ (AT.In.below Bw IT.out)).mono ?_
  rintro e w1 ⟨rfl, hq⟩
  have HP := (hq.block w.heap.size (by simp)).trans (heap_alloc_new w (.cells #[.string ⟨#[]⟩, .string ⟨#[]⟩, .int .i64 0, .int .i64 0] 62))
  have B1 := Bw.trans (hq.mono (by simp))
  clear hq Bw z lz
  have c0 := blk_cell HP 0
  have f0 := blk_frozen HP 0
  have c1 := blk_cell HP 1
  have f1 := blk_frozen HP 1
  have c2 := blk_cell HP 2
  have f2 := blk_frozen HP 2
  have c3 := blk_cell HP 3
  have f3 := blk_frozen HP 3
  simp only [List.getElem?_toArray, List.getElem?_cons_zero, List.getElem?_cons_succ] at c0 c1 c2 c3
  go_wp2
  refine bodyPost_ret (results_ct rfl _ _ w.heap.size 62 #[.string x.key, .string x.val, .int .i64 x.made, .int .i64 x.mod] (0, 0) _ rfl (blk_put (cs := #[.string x.key, .string x.val, .int .i64 x.made, .int .i64 0]) (blk_put (cs := #[.string x.key, .string x.val, .int .i64 0, .int .i64 0]) (blk_put (cs := #[.string x.key, .string ⟨#[]⟩, .int .i64 0, .int .i64 0]) (blk_put (cs := #[.string ⟨#[]⟩, .string ⟨#[]⟩, .int .i64 0, .int .i64 0]) HP 0 (.string x.key) rfl) 1 (.string x.val) rfl) 2 (.int .i64 x.made) rfl) 3 (.int .i64 x.mod) rfl) Try.underlying62 rfl (by kernel_rfl)) rfl ?_
  exact ⟨rfl, ((((B1.setCell (p := ⟨w.heap.size, 0, none⟩) (Nat.le_refl _) (.string x.key)).setCell (p := ⟨w.heap.size, 1, none⟩) (Nat.le_refl _) (.string x.val)).setCell (p := ⟨w.heap.size, 2, none⟩) (Nat.le_refl _) (.int .i64 x.made)).setCell (p := ⟨w.heap.size, 3, none⟩) (Nat.le_refl _) (.int .i64 x.mod))⟩
set_option maxHeartbeats 2000000 in
set_option maxRecDepth 100000 in
theorem holdsC_any (tb : Nat) (t : AT) (m : Md) (ad : Option Addr) (c : Nat) (w : World) (hT : At w tb t m ad c) (p : Nat) (hp : w.cell? ⟨p, 0, none⟩ = some (.pointer (some ⟨tb, 0, none⟩))) (x : Cnd) : Calls Try.prog 130 #[.agg #[.string x.key, .int .i64 x.mod], .pointer (some ⟨p, 0, none⟩)] w fun e w' => e = .returned (.bool (!decide ((getD x.key m.row).mod = x.mod))) ∧ Below w.heap.size w w' := by
  have hg := fun W hW => treeGet_any tb t m ad c W hW x.key
  generalize getD x.key m.row = y at *
  generalize (getL x.key m.row).isSome = b at *
  have HG := Lib.hid hg
  have HT := Lib.hid hT
  have lp := World.block_lt_of_cell? _ _ hp
  clear hg hT
  by_cases hm : y.mod = x.mod
  · have h1 : (y.mod == x.mod) = true := beq_iff_eq.2 hm
    have h2 : (y.mod != x.mod) = false := by rw [bne, h1]; rfl
    go_enter Try.func130, Try.ntmps130
    go_wp2_with fail
    have Bw := below_alloc (Below.refl w.heap.size w) (.cells #[.string x.key, .int .i64 x.mod] 73)
    refine (HG.out _ (HT.out.below Bw)).mono ?_
    rintro e w1 ⟨rfl, hq⟩
    have HP := (hq.block w.heap.size (by simp)).trans (heap_alloc_new w (.cells #[.string x.key, .int .i64 x.mod] 73))
    have B1 := Lib.hid (Bw.trans (hq.mono (by simp)))
    clear hq Bw hp lp
    have c0 := blk_cell HP 0
    have c1 := blk_cell HP 1
    have lP := blk_lt HP
    simp only [List.getElem?_toArray, List.getElem?_cons_zero, List.getElem?_cons_succ] at c0 c1
    go_wp2
    go_ret
    exact ⟨by simp [hm], below_alloc B1.out _⟩
  · have h1 : (y.mod == x.mod) = false := beq_eq_false_iff_ne.2 hm
    have h2 : (y.mod != x.mod) = true := by rw [bne, h1]; rfl
    go_enter Try.func130, Try.ntmps130
    go_wp2_with fail
    have Bw := below_alloc (Below.refl w.heap.size w) (.cells #[.string x.key, .int .i64 x.mod] 73)
    refine (HG.out _ (HT.out.below Bw)).mono ?_
    rintro e w1 ⟨rfl, hq⟩
    have HP := (hq.block w.heap.size (by simp)).trans (heap_alloc_new w (.cells #[.string x.key, .int .i64 x.mod] 73))
    have B1 := Lib.hid (Bw.trans (hq.mono (by simp)))
    clear hq Bw hp lp
    have c0 := blk_cell HP 0
    have c1 := blk_cell HP 1
    have lP := blk_lt HP
    simp only [List.getElem?_toArray, List.getElem?_cons_zero, List.getElem?_cons_succ] at c0 c1
    go_wp2
    go_ret
    exact ⟨by simp [hm], below_alloc B1.out _⟩
theorem holdsL_any {cs : List Cnd} {l : List Ent} : holdsL cs l = !cs.any (fun c => !decide ((getD c.key l).mod = c.mod)) := by
  unfold holdsL
  induction cs with
  | nil => rfl
  | cons c cs ih => simp [List.all_cons, List.any_cons, ih]
set_option maxHeartbeats 2000000 in
set_option maxRecDepth 100000 in
theorem holds_any (tb : Nat) (t : AT) (m : Md) (ad : Option Addr) (c : Nat) (w : World) (hT : At w tb t m ad c) (A : Option Addr) (ca : Nat) (cs : List Cnd) (hca : cs.length ≤ ca) (hA : Kd.C kCnd w A cs.length cs) (hl : cs.length ≤ 1000000000) :
    Calls Try.prog 53 #[.pointer (some ⟨tb, 0, none⟩), .slice A cs.length ca] w fun e w' => e = .returned (.bool (holdsL cs m.row)) ∧ Below w.heap.size w w' := by
  have Bw := below_alloc (Below.refl w.heap.size w) (.cells #[.pointer (some ⟨tb, 0, none⟩)] 49)
  have HP := heap_alloc_new w (.cells #[.pointer (some ⟨tb, 0, none⟩)] 49)
  have HH := hasCndC_any (fun c => !decide ((getD c.key m.row).mod = c.mod)) 130 ⟨w.heap.size, 0, none⟩ (Go.Proofs.enters_of Try.func130 (by kernel_rfl) rfl) A ca cs (w.alloc (.cells #[.pointer (some ⟨tb, 0, none⟩)] 49)) hca (Kd.C_below hA Bw) hl (fun x _ V hV => holdsC_any tb t m ad c V ((hT.below Bw).below hV) w.heap.size ((hV.cell (p := ⟨w.heap.size, 0, none⟩) (by simp)).trans ((blk_cell HP 0).trans rfl)) x)
  rw [holdsL_any]
  generalize cs.any (fun c => !decide ((getD c.key m.row).mod = c.mod)) = b at *
  have HC := Lib.hid HH
  have BW := Lib.hid Bw
  clear HH hA hT HP Bw
  go_enter Try.func53, Try.ntmps53
  go_wp2_with fail
  refine HC.out.mono ?_
  rintro e w1 ⟨rfl, hq⟩
  go_wp2
  go_ret
  exact ⟨rfl, BW.out.trans (hq.mono (by simp))⟩
end Go.Proofs.Ytobanhbjkomieaa.TA
end
section
namespace Go.Proofs.Ytobanhbjkomieaa.TA
open Go Go.RowKit Go.Proofs.Ytobanhbjkomieaa.KP Go.Proofs.YtobanhbjkomieaaW.PrintWords Go.Proofs.YtobanhbjkomieaaW.PrintLast Go.Proofs.YtobanhbjkomieaaW.PrintMore
set_option linter.unusedSimpArgs false
set_option linter.unusedVariables false
set_option maxHeartbeats 2000000 in
set_option maxRecDepth 100000 in
theorem new_any (w : World) : Calls Try.prog 61 #[] w fun e w' => ∃ g, e = .returned (.pointer (some ⟨g, 0, none⟩)) ∧ w.heap.size ≤ g ∧ At w' g AT.nil Md.new none 0 ∧ Below w.heap.size w w' := by
  go_enter Try.func61, Try.ntmps61
  go_wp2
  go_ret
  exact ⟨w.heap.size, rfl, Nat.le_refl _, ⟨heap_alloc_new w _, trivial, trivial, rfl, Kd.C_nil _ _, Nat.le_refl _, ok_new⟩, below_alloc (Below.refl _ _) _⟩
set_option maxHeartbeats 2000000 in
set_option maxRecDepth 100000 in
theorem copy_any (tb : Nat) (t : AT) (m : Md) (ad : Option Addr) (c : Nat) (w : World) (hT : At w tb t m ad c) : Calls Try.prog 51 #[.pointer (some ⟨tb, 0, none⟩)] w fun e w' => ∃ g, e = .returned (.pointer (some ⟨g, 0, none⟩)) ∧ w.heap.size ≤ g ∧ At w' g t m ad c ∧ Below w.heap.size w w' := by
  have HT := Lib.hid hT
  have z0 := blk_cell hT.blk 0
  have z1 := blk_cell hT.blk 1
  have z2 := blk_cell hT.blk 2
  have z3 := blk_cell hT.blk 3
  have z4 := blk_cell hT.blk 4
  simp only [List.getElem?_toArray, List.getElem?_cons_zero, List.getElem?_cons_succ] at z0 z1 z2 z3 z4
  have lb := blk_lt hT.blk
  clear hT
  go_enter Try.func51, Try.ntmps51
  go_wp2
  go_ret
  have Bw := below_alloc (Below.refl w.heap.size w) (.cells (trC t m ad c) 166)
  exact ⟨w.heap.size, rfl, Nat.le_refl _, ⟨heap_alloc_new w _, HT.out.ins.below Bw, HT.out.tall, HT.out.row, Kd.C_below HT.out.hap Bw, HT.out.cap, HT.out.ok⟩, Bw⟩
end Go.Proofs.Ytobanhbjkomieaa.TA
end
section
namespace Go.Proofs.Ytobanhbjkomieaa.TA
open Go Go.RowKit Go.Proofs.YtobanhbjkomieaaW.PrintWords Go.Proofs.YtobanhbjkomieaaW.PrintLast Go.Proofs.YtobanhbjkomieaaW.PrintMore
set_option linter.unusedSimpArgs false
set_option linter.unusedVariables false
theorem addb (a : Addr) (n : Nat) : (a.add n).block = a.block := by unfold Addr.add; split <;> rfl
theorem kEvt_any {w : World} {x : Evt} {cs : List Value} (w' : World) (h : kEvt.K w x cs) : kEvt.K w' x cs := by
  obtain ⟨_, _, rfl, rfl, ⟨_, _, rfl, rfl, ⟨_, _, rfl, rfl, rfl⟩⟩⟩ := h
  exact kEvt_mk w' x
theorem C_keep {w w' : World} {A : Option Addr} {n : Nat} {l : List Evt} (h : Kd.C kEvt w A n l) (hk : ∀ ad, A = some ad → 0 < n → w'.heap[ad.block]? = w.heap[ad.block]?) : Kd.C kEvt w' A n l := by
  obtain ⟨h1, h2, h3⟩ := h
  refine ⟨h1, h2, fun hn => ?_⟩
  obtain ⟨ad, e, hc⟩ := h3 hn
  refine ⟨ad, e, fun j p hp => ?_⟩
  obtain ⟨c, hl, hK, hu⟩ := hc j p hp
  exact ⟨c, hl, kEvt_any w' hK, fun i u hi => (World.cell?_of_block (a := ad.add (j * kEvt.sz + i)) (by rw [addb]; exact hk ad e hn)).trans (hu i u hi)⟩
theorem hap_cell {W : World} {A : Option Addr} {l : List Evt} (h : Kd.C kEvt W A l.length l) (a : Addr) (ha : A = some a) (hn : 0 < l.length) : ∃ j b, W.cell? ⟨a.block, j, none⟩ = some (.bool b) := by
  obtain ⟨ad, e, _, hc, _⟩ := at_Evt h hn
  obtain rfl : a = ad := Option.some.inj (ha.symm.trans e)
  rw [addb] at hc
  exact ⟨_, _, hc⟩
theorem hap_far {W : World} {A : Option Addr} {l : List Evt} (h : Kd.C kEvt W A l.length l) {g : Nat} {t : AT} {m : Md} {ad : Option Addr} {c : Nat} {T : TypeId} (hg : W.heap[g]? = some (.cells (trC t m ad c) T (0, 0))) (a : Addr) (ha : A = some a) (hn : 0 < l.length) : a.block ≠ g := by
  obtain ⟨j, b, hc⟩ := hap_cell h a ha hn
  rintro rfl
  rw [blk_cell hg j] at hc
  match j, hc with
  | 0, hc => cases hc
  | 1, hc => cases hc
  | 2, hc => cases hc
  | 3, hc => cases hc
  | 4, hc => cases hc
  | j + 5, hc => simp at hc
theorem hap_lt {W : World} {A : Option Addr} {l : List Evt} (h : Kd.C kEvt W A l.length l) (a : Addr) (ha : A = some a) (hn : 0 < l.length) : a.block < W.heap.size := by
  obtain ⟨j, b, hc⟩ := hap_cell h a ha hn
  exact World.block_lt_of_cell? _ ⟨a.block, j, none⟩ hc
theorem At.kb {W W' : World} {tb : Nat} {t : AT} {m : Md} {ad : Option Addr} {c : Nat} (h : At W tb t m ad c) {g : Nat} {t2 : AT} {m2 : Md} {ad2 : Option Addr} {c2 : Nat}
    (hg : W.heap[g]? = some (.cells (trC t2 m2 ad2 c2) 166 (0, 0))) (hne : tb ≠ g) (hb : Kb g W W') : At W' tb t m ad c :=
  ⟨hb.blk h.blk hne, h.ins.kb hg (by decide) hb, h.tall, h.row, C_keep h.hap (fun a ha hn => hb.block _ (hap_lt h.hap a ha hn) (hap_far h.hap hg a ha hn)), h.cap, h.ok⟩
theorem Kb.setNew {g : Nat} {W W1 : World} (h : Kb g W W1) {p : Addr} (hp : W.heap.size ≤ p.block) (u : Value) : Kb g W (W1.setCell p u) :=
  ⟨h.os, h.tape, h.output, by simpa [World.setCell] using h.size, fun i hi hg => (Below.heap_setCell W1 p u i (by omega)).trans (h.block i hi hg)⟩
theorem At.remade {W W' : World} {tb : Nat} {t : AT} {m : Md} {ad : Option Addr} {c : Nat} (h : At W tb t m ad c) (hb : Kb tb W W') {t' : AT} {m' : Md} (hh : m'.hap = m.hap)
    (hB : W'.heap[tb]? = some (.cells (trC t' m' ad c) 166 (0, 0))) (hi : t'.In W') (ht : t'.Tall) (hr : t'.row = m'.row) (ho : Ok m') : At W' tb t' m' ad c :=
  ⟨hB, hi, ht, hr, by rw [hh]; exact C_keep h.hap (fun a ha hn => hb.block _ (hap_lt h.hap a ha hn) (hap_far h.hap h.blk a ha hn)), by rw [hh]; exact h.cap, ho⟩
theorem ok_row {m : Md} (h : Ok m) {l : List Ent} (hs : Srt l) (hm : Made m.rev l) : Ok ⟨l, m.rev, m.low, m.hap⟩ := ⟨hs, h.lo, hm, h.hap, h.ris⟩
theorem cutXW {goal : Prop} (Facts : Nat → World → Prop) {G : Nat → World → Prop} (main : (∀ X W, Facts X W → G X W) → goal) (pf : ∀ X W, Facts X W → G X W) : goal := main pf
def entCells (x : Ent) : List Value := [.string x.key, .string x.val, .int .i64 x.made, .int .i64 x.mod]
theorem entCells_len : ∀ l : List Ent, (l.flatMap entCells).length = l.length * 4
  | [] => rfl
  | x :: l => by
    rw [List.flatMap_cons, List.length_append, entCells_len l, List.length_cons]
    show 4 + _ = _
    omega
theorem reps_ent {R : Ent → List Value → Prop} (hR : ∀ x, R x (entCells x)) : ∀ l : List Ent, Reps R 4 l (l.flatMap entCells)
  | [] => Reps.none _ _
  | x :: l => by
    refine ⟨by rw [entCells_len], fun j p hp => ?_⟩
    rw [List.flatMap_cons]
    match j, hp with
    | 0, hp =>
      obtain rfl : x = p := Option.some.inj hp
      exact hR x
    | j + 1, hp =>
      have := (reps_ent hR l).2 j p hp
      rw [show (j + 1) * 4 = 4 + j * 4 by omega, ← List.drop_drop]
      exact this
theorem R_flat {e : Nat} {w : World} {base : Nat} {ok : Nat → Prop} {v : Value} {l : List Ent} (ho : w.ownsRow base e 4 v l.length (l.flatMap entCells)) (hok : ∀ k, v.ownBlock = some k → ok k) : kEnt.R e w base ok v l :=
  ⟨hok, _, ho, reps_ent (fun x => kEnt_mkM _ _ _ _) l⟩
end Go.Proofs.Ytobanhbjkomieaa.TA
end
section
namespace Go.Proofs.Ytobanhbjkomieaa.TA
open Go Go.RowKit Go.Shelf Go.Proofs Go.Proofs.Ytobanhbjkomieaa.KP Go.Proofs.YtobanhbjkomieaaW.PrintWords Go.Proofs.YtobanhbjkomieaaW.PrintLast Go.Proofs.YtobanhbjkomieaaW.PrintMore
open Go.Proofs.Ytobanhbjkomieaa.RP (wTake wSkip wOne wpAnyH_cast below_next0)
set_option linter.unusedSimpArgs false
set_option linter.unusedVariables false
attribute [local go_sem] Oper.semAt_some
theorem room_of_none {F : Fence} (hd : F.depth = none) (k : Nat) : F.room k := fun d h => by rw [hd] at h; cases h
theorem RoundIn_anyDepth {F : Fence} (hd : F.depth = none) {m m' : Nat} {P : Program} {l : Nat} {f : FuncId} {tmps : Array Value} {assign body : Code} {w : World} {R : Ending → World → Prop}
    (h : RoundIn F m P l f tmps assign body w R) : RoundIn F m' P l f tmps assign body w R := ⟨h.1, fun c cs _ => h.2 c cs (room_of_none hd _)⟩
theorem YieldAt_anyDepth {F : Fence} (hd : F.depth = none) {m : Nat} (m' : Nat) {P : Program} {l : Nat} {args : Array Value} {W : World} {R : Ending → World → Prop} (h : YieldAt F m P l args W R) : YieldAt F m' P l args W R := by
  obtain ⟨fn, tmps, assign, body, hy, hR⟩ := h
  exact ⟨fn, tmps, assign, body, hy, RoundIn_anyDepth hd hR⟩
section
variable {F : Fence} {n : Nat} {P : Program} {ops : Array Oper} {Q : Exit → Act → World → Prop} {md : Region.Mode}
theorem iTake (i : Nat) {oi : Oper} {v : Value} {fuel : Nat} {listed : Array Bool} {a : Act} {w : World} (hro : F.round = none) (h : wpAnyIn F n P md ops Q fuel (listed.setIfInBounds i true) (a.put oi.dst v) w)
    (hi : ops[i]? = some oi := by (simp only [List.getElem?_toArray, List.getElem?_cons_zero, List.getElem?_cons_succ]; rfl))
    (hs : Region.noSelect ops = true := by kernel_rfl) (hf : Region.free md ops listed i = true := by kernel_rfl) (hr : (Region.ready md ops listed).contains i = true := by kernel_rfl)
    (hQ : ∀ c a w, Q (.panic c) (a.put oi.dst v) w → Q (.panic c) a w := by exact fun _ _ _ h => h)
    (hy : YieldsFenced P ops oi v a := by (refine ⟨Or.inl ⟨by rfl, ?_⟩, fun _ => rfl⟩; intro w; go_simp; try with_reducible rfl)) : wpAnyIn F n P md ops Q (fuel + 1) listed a w := wpAnyIn_take hro hi hs hf hr hQ hy h
theorem iSkip (i : Nat) {oi : Oper} {fuel : Nat} {listed : Array Bool} {a : Act} {w : World} (hro : F.round = none) (h : wpAnyIn F n P md ops Q fuel (listed.setIfInBounds i true) (a.put oi.dst undef) w)
    (hi : ops[i]? = some oi := by (simp only [List.getElem?_toArray, List.getElem?_cons_zero, List.getElem?_cons_succ]; rfl))
    (hs : Region.noSelect ops = true := by kernel_rfl) (hf : Region.free md ops listed i = true := by kernel_rfl) (hr : (Region.ready md ops listed).contains i = true := by kernel_rfl)
    (hQ : ∀ c a w, Q (.panic c) (a.put oi.dst undef) w → Q (.panic c) a w := by exact fun _ _ _ h => h)
    (hy : YieldsFenced P ops oi undef a := by exact ⟨Or.inr ⟨by rfl, rfl⟩, fun _ => rfl⟩) : wpAnyIn F n P md ops Q (fuel + 1) listed a w := wpAnyIn_take hro hi hs hf hr hQ hy h
theorem iOne (i : Nat) {o : Oper} {fuel : Nat} {listed : Array Bool} {a : Act} {w : World}
    (h : ∀ K' : Act → World → Prop, (∀ a w, wpAnyIn F n P md ops Q fuel (listed.setIfInBounds i true) a w → K' a w) → if Region.wanted o (yielded ops a.tmps) = true then Oper.wpIn F n P o a w K' Q else (∀ f, o.about P w a.eval = some f → F.fn f) ∧ K' (a.put o.dst undef) w)
    (hr : Region.ready md ops listed = [i] := by kernel_rfl) (ho : ops[i]? = some o := by rfl) : wpAnyIn F n P md ops Q (fuel + 1) listed a w := wpAnyIn_ready hr (by simp) (AllReadyIn.cons ho h AllReadyIn.nil)
theorem wpAnyIn_cast {fuel : Nat} {l l' : Array Bool} {a : Act} {w : World} (h : l = l') (H : wpAnyIn F n P md ops Q fuel l' a w) : wpAnyIn F n P md ops Q fuel l a w := h ▸ H
theorem cut0 {goal : Prop} {G : Prop} (main : G → goal) (pf : G) : goal := main pf
end
abbrev encE (x : Ent) : Array Value := #[.string x.key, entV x]
set_option maxRecDepth 100000 in
set_option maxHeartbeats 10000000 in
theorem walk_in (F : Fence) (hd : F.depth = none) (hwf : F.fn 172) (hro : F.round = none) (l : Nat) (W0 : World) (N : Nat) (f : ByteArray) (J Jx : List Ent → World → Prop) (hJd : ∀ pre W, J pre W → J pre W.drew)
    (hY : ∀ m pre x W, J pre W → pre.length < N → YieldAt F m Try.prog l (encE x) W fun e W' =>
      (e = .returned (.bool true) ∧ J (pre ++ [x]) W' ∧ Below W0.heap.size W W') ∨ (e = .returned (.bool false) ∧ Jx (pre ++ [x]) W')) (T : AT) :
    ∀ (n : Nat) (pre : List Ent) (W : World), T.In W0 → Below W0.heap.size W0 W → J pre W → pre.length + (T.from_ f).length ≤ N →
      CallsIn F n Try.prog 172 #[.pointer T.adr, .string f, .func (.yield l) #[] #[]] W fun e W' =>
        (e = .returned (.bool true) ∧ J (pre ++ T.from_ f) W' ∧ Below W0.heap.size W W') ∨ (e = .returned (.bool false) ∧ ∃ q, q <+: T.from_ f ∧ Jx (pre ++ q) W') := by
  induction T with
  | nil =>
    intro n pre W ht hb hJ _
    refine callsIn_of_wp Try.func172 rfl hwf ?_ hro
    simp only [adr_nil, Try.ntmps172, List.size_toArray, List.length_cons, List.length_nil, Nat.reduceAdd, Nat.reduceSub, Array.replicate_succ, Array.replicate_zero, List.push_toArray, List.append_toArray, List.nil_append, List.cons_append]
    gi_wp2
    go_ret
    exact .inl ⟨rfl, by simpa [AT.from_] using hJ, Below.refl _ _⟩
  | node b e tl tr h ihl ihr =>
    intro n pre W ht hb0 hJ hN
    obtain ⟨h0, il, ir⟩ := ht
    have hdd : ∀ k : Nat, (F.depth.isSome = true → 1 ≤ k) := fun k h => by rw [hd] at h; cases h
    have HB := Lib.hid h0
    have lb := blk_lt h0
    have cell : ∀ (W' : World), Below W0.heap.size W0 W' → W'.heap[b]? = some (.cells #[.string e.key, .string e.key, .string e.val, .int .i64 e.made, .int .i64 e.mod, .pointer tl.adr, .pointer tr.adr, .int .i64 h] 218 (0, 0)) := fun W' hW' => (hW'.block b lb).trans h0
    have CELL := Lib.hid cell
    have c := cell W hb0
    have z0 := blk_cell c 0
    have z1 := blk_cell c 1
    have z2 := blk_cell c 2
    have z3 := blk_cell c 3
    have z4 := blk_cell c 4
    have z5 := blk_cell c 5
    have z6 := blk_cell c 6
    simp only [List.getElem?_toArray, List.getElem?_cons_zero, List.getElem?_cons_succ] at z0 z1 z2 z3 z4 z5 z6
    clear c cell h0
    cases hk : lt e.key f
    · have k1 := lt_bytes hk
      have hf : (AT.node b e tl tr h).from_ f = tl.from_ f ++ e :: tr.from_ f := by simp only [AT.from_, hk, Bool.false_eq_true, if_false]
      rw [hf] at hN ⊢
      simp only [List.length_append, List.length_cons] at hN
      have HIR := Lib.hid ihr
      have hy2 : ∀ W1, J (pre ++ tl.from_ f) W1 → Below W0.heap.size W.drew W1 → YieldAt F (n - 1) Try.prog l (encE e) W1 fun e2 W2 =>
          (e2 = .returned (.bool true) ∧ J (pre ++ tl.from_ f ++ [e]) W2 ∧ Below W0.heap.size W.drew W2) ∨ (e2 = .returned (.bool false) ∧ Jx (pre ++ tl.from_ f ++ [e]) W2) := fun W1 hJ1 hb =>
        YieldAt.mono (hY (n - 1) _ e W1 hJ1 (by simp; omega)) fun e2 W2 h => h.elim (fun ⟨he, hj, hb2⟩ => .inl ⟨he, hj, hb.trans hb2⟩) .inr
      have I1 := (ihl (n - 1) pre W.drew il hb0.drew (hJd _ _ hJ) (by omega)).mono (R' := fun e2 W1 =>
          (e2 = .returned (.bool true) ∧ Below W0.heap.size W.drew W1 ∧ Hid (W1.heap[b]? = some (.cells #[.string e.key, .string e.key, .string e.val, .int .i64 e.made, .int .i64 e.mod, .pointer tl.adr, .pointer tr.adr, .int .i64 h] 218 (0, 0))) ∧ YieldAt F (n - 1) Try.prog l (encE e) W1 fun e2 W2 =>
            (e2 = .returned (.bool true) ∧ J (pre ++ tl.from_ f ++ [e]) W2 ∧ Below W0.heap.size W.drew W2) ∨ (e2 = .returned (.bool false) ∧ Jx (pre ++ tl.from_ f ++ [e]) W2)) ∨
          (e2 = .returned (.bool false) ∧ ∃ q, q <+: tl.from_ f ∧ Jx (pre ++ q) W1))
        (fun e2 W1 h => h.elim (fun ⟨he, hj, hb1⟩ => .inl ⟨he, hb1, CELL.out W1 (hb0.drew.trans hb1), hy2 W1 hj hb1⟩) .inr)
      have HI := Lib.hid I1
      clear I1 hy2 ihl ihr hY
      refine callsIn_of_wp Try.func172 rfl hwf ?_ hro
      simp only [adr_node, Try.ntmps172, List.size_toArray, List.length_cons, List.length_nil, Nat.reduceAdd, Nat.reduceSub, Array.replicate_succ, Array.replicate_zero, List.push_toArray, List.append_toArray, List.nil_append, List.cons_append]
      -- THE REGION
      gi_wp2
      refine wpIn_region_any (by kernel_rfl) ?_
      try (change wpAnyIn _ _ _ _ _ _ _ _ _ (World.drew _))
      refine iTake 0 hro ?_
      try simp only [Act.put, List.setIfInBounds_toArray, List.set_cons_zero, List.set_cons_succ]
      refine iTake 1 hro ?_
      try simp only [Act.put, List.setIfInBounds_toArray, List.set_cons_zero, List.set_cons_succ]
      refine iTake 2 hro ?_
      try simp only [Act.put, List.setIfInBounds_toArray, List.set_cons_zero, List.set_cons_succ]
      refine iTake 4 hro ?_
      try simp only [Act.put, List.setIfInBounds_toArray, List.set_cons_zero, List.set_cons_succ]
      refine iTake 5 hro ?_
      try simp only [Act.put, List.setIfInBounds_toArray, List.set_cons_zero, List.set_cons_succ]
      refine iOne 3 (fun K hK => ?_)
      go_simp
      refine hK _ _ ?_
      clear hK K
      try simp only [Act.put, List.setIfInBounds_toArray, List.set_cons_zero, List.set_cons_succ]
      refine iOne 6 (fun K hK => ?_)
      go_simp
      gi_wp2_with ((try refine ⟨hdd _, ?_⟩); gi_at_call 172; refine HI.out.mono ?_; clear HI; rintro e2 W1 (⟨rfl, hb1, hc1, fn, tmps, assign, body, hy, hR⟩ | ⟨rfl, q, hq, hx1⟩))
      · have y0 := blk_cell hc1.out 0
        have y1 := blk_cell hc1.out 1
        have y2 := blk_cell hc1.out 2
        have y3 := blk_cell hc1.out 3
        have y4 := blk_cell hc1.out 4
        simp only [List.getElem?_toArray, List.getElem?_cons_zero, List.getElem?_cons_succ] at y0 y1 y2 y3 y4
        have HY := Lib.hid hy
        have HR := Lib.hid hR
        have HC1 := Lib.hid hc1
        clear hy hR hc1
        refine iTake 7 hro ?_
        try simp only [Act.put, List.setIfInBounds_toArray, List.set_cons_zero, List.set_cons_succ]
        refine iTake 8 hro ?_
        try simp only [Act.put, List.setIfInBounds_toArray, List.set_cons_zero, List.set_cons_succ]
        refine iTake 9 hro ?_
        try simp only [Act.put, List.setIfInBounds_toArray, List.set_cons_zero, List.set_cons_succ]
        refine iTake 10 hro ?_
        try simp only [Act.put, List.setIfInBounds_toArray, List.set_cons_zero, List.set_cons_succ]
        refine iTake 11 hro ?_
        try simp only [Act.put, List.setIfInBounds_toArray, List.set_cons_zero, List.set_cons_succ]
        refine iTake 13 hro ?_
        try simp only [Act.put, List.setIfInBounds_toArray, List.set_cons_zero, List.set_cons_succ]
        refine iTake 14 hro ?_
        try simp only [Act.put, List.setIfInBounds_toArray, List.set_cons_zero, List.set_cons_succ]
        refine iTake 15 hro ?_
        try simp only [Act.put, List.setIfInBounds_toArray, List.set_cons_zero, List.set_cons_succ]
        apply cut0
        · intro REST
          have RE := Lib.hid REST
          clear REST
          refine wpAnyIn_ready (rs := [12, 16]) (by kernel_rfl) (by simp) (AllReadyIn.cons rfl (fun K hK => ?_) (AllReadyIn.cons rfl (fun K hK => ?_) AllReadyIn.nil))
          · go_simp
            refine hK _ _ ?_
            clear hK K
            try simp only [Act.put, List.setIfInBounds_toArray, List.set_cons_zero, List.set_cons_succ]
            refine iOne 16 (fun K hK => ?_)
            go_simp
            refine hK _ _ ?_
            clear hK K
            try simp only [Act.put, List.setIfInBounds_toArray, List.set_cons_zero, List.set_cons_succ]
            refine wpAnyIn_cast (l' := #[true, true, true, true, true, true, true, true, true, true, true, true, true, true, true, true, true, false, false, false, false, false, false, false, false, false, false, false, false]) (by kernel_rfl) ?_
            exact RE.out
          · go_simp
            refine hK _ _ ?_
            clear hK K
            try simp only [Act.put, List.setIfInBounds_toArray, List.set_cons_zero, List.set_cons_succ]
            refine iOne 12 (fun K hK => ?_)
            go_simp
            refine hK _ _ ?_
            clear hK K
            try simp only [Act.put, List.setIfInBounds_toArray, List.set_cons_zero, List.set_cons_succ]
            refine wpAnyIn_cast (l' := #[true, true, true, true, true, true, true, true, true, true, true, true, true, true, true, true, true, false, false, false, false, false, false, false, false, false, false, false, false]) (by kernel_rfl) ?_
            exact RE.out
        clear y0 y1 y2 y3 y4
        have hy := HY.out
        have hR := HR.out
        refine iOne 17 (fun K hK => ?_)
        go_simp
        gi_wp2_with ((try refine ⟨hdd _, ?_⟩); refine hR.mono ?_; clear hR; rintro e2 W2 (⟨rfl, hJ2, hb2⟩ | ⟨rfl, hx2⟩))
        · refine iTake 18 hro ?_
          try simp only [Act.put, List.setIfInBounds_toArray, List.set_cons_zero, List.set_cons_succ]
          refine iTake 19 hro ?_
          try simp only [Act.put, List.setIfInBounds_toArray, List.set_cons_zero, List.set_cons_succ]
          refine iTake 20 hro ?_
          try simp only [Act.put, List.setIfInBounds_toArray, List.set_cons_zero, List.set_cons_succ]
          refine iTake 21 hro ?_
          try simp only [Act.put, List.setIfInBounds_toArray, List.set_cons_zero, List.set_cons_succ]
          refine iTake 22 hro ?_
          try simp only [Act.put, List.setIfInBounds_toArray, List.set_cons_zero, List.set_cons_succ]
          refine iTake 24 hro ?_
          try simp only [Act.put, List.setIfInBounds_toArray, List.set_cons_zero, List.set_cons_succ]
          refine iTake 25 hro ?_
          try simp only [Act.put, List.setIfInBounds_toArray, List.set_cons_zero, List.set_cons_succ]
          have hc2 := CELL.out W2 (hb0.drew.trans hb2)
          have x0 := blk_cell hc2 6
          simp only [List.getElem?_toArray, List.getElem?_cons_zero, List.getElem?_cons_succ] at x0
          refine iOne 23 (fun K hK => ?_)
          go_simp
          refine hK _ _ ?_
          clear hK K
          try simp only [Act.put, List.setIfInBounds_toArray, List.set_cons_zero, List.set_cons_succ]
          refine iOne 26 (fun K hK => ?_)
          go_simp
          gi_wp2_with ((try refine ⟨hdd _, ?_⟩); gi_at_call 172; refine (HIR.out (n - 1) _ _ ir (hb0.drew.trans hb2) hJ2 (by simp; omega)).mono ?_; rintro e2 W3 (⟨rfl, hJ3, hb3⟩ | ⟨rfl, q, hq, hx3⟩))
          · refine iTake 27 hro ?_
            try simp only [Act.put, List.setIfInBounds_toArray, List.set_cons_zero, List.set_cons_succ]
            refine iTake 28 hro ?_
            try simp only [Act.put, List.setIfInBounds_toArray, List.set_cons_zero, List.set_cons_succ]
            refine wpAnyIn_done (by kernel_rfl) ?_ _
            gi_wp2
            go_ret
            exact .inl ⟨rfl, by simpa [List.append_assoc] using hJ3, (Below.refl _ _).drew.trans (hb2.trans hb3)⟩
          · refine iTake 27 hro ?_
            try simp only [Act.put, List.setIfInBounds_toArray, List.set_cons_zero, List.set_cons_succ]
            refine iTake 28 hro ?_
            try simp only [Act.put, List.setIfInBounds_toArray, List.set_cons_zero, List.set_cons_succ]
            refine wpAnyIn_done (by kernel_rfl) ?_ _
            gi_wp2
            go_ret
            exact .inr (by obtain ⟨r, hr'⟩ := hq; exact ⟨rfl, tl.from_ f ++ e :: q, ⟨r, by simp [← hr']⟩, by simpa [List.append_assoc] using hx3⟩)
        · refine iTake 18 hro ?_
          try simp only [Act.put, List.setIfInBounds_toArray, List.set_cons_zero, List.set_cons_succ]
          refine iTake 19 hro ?_
          try simp only [Act.put, List.setIfInBounds_toArray, List.set_cons_zero, List.set_cons_succ]
          refine iSkip 20 hro ?_
          try simp only [Act.put, List.setIfInBounds_toArray, List.set_cons_zero, List.set_cons_succ]
          refine iSkip 21 hro ?_
          try simp only [Act.put, List.setIfInBounds_toArray, List.set_cons_zero, List.set_cons_succ]
          refine iSkip 22 hro ?_
          try simp only [Act.put, List.setIfInBounds_toArray, List.set_cons_zero, List.set_cons_succ]
          refine iSkip 23 hro ?_
          try simp only [Act.put, List.setIfInBounds_toArray, List.set_cons_zero, List.set_cons_succ]
          refine iSkip 24 hro ?_
          try simp only [Act.put, List.setIfInBounds_toArray, List.set_cons_zero, List.set_cons_succ]
          refine iSkip 25 hro ?_
          try simp only [Act.put, List.setIfInBounds_toArray, List.set_cons_zero, List.set_cons_succ]
          refine iOne 26 (fun K hK => ?_)
          go_simp
          refine hK _ _ ?_
          clear hK K
          try simp only [Act.put, List.setIfInBounds_toArray, List.set_cons_zero, List.set_cons_succ]
          refine iTake 27 hro ?_
          try simp only [Act.put, List.setIfInBounds_toArray, List.set_cons_zero, List.set_cons_succ]
          refine iTake 28 hro ?_
          try simp only [Act.put, List.setIfInBounds_toArray, List.set_cons_zero, List.set_cons_succ]
          refine wpAnyIn_done (by kernel_rfl) ?_ _
          gi_wp2
          go_ret
          exact .inr ⟨rfl, tl.from_ f ++ [e], ⟨tr.from_ f, by simp⟩, by simpa [List.append_assoc] using hx2⟩
      · refine iTake 7 hro ?_
        try simp only [Act.put, List.setIfInBounds_toArray, List.set_cons_zero, List.set_cons_succ]
        refine iSkip 8 hro ?_
        try simp only [Act.put, List.setIfInBounds_toArray, List.set_cons_zero, List.set_cons_succ]
        refine iSkip 9 hro ?_
        try simp only [Act.put, List.setIfInBounds_toArray, List.set_cons_zero, List.set_cons_succ]
        refine iSkip 10 hro ?_
        try simp only [Act.put, List.setIfInBounds_toArray, List.set_cons_zero, List.set_cons_succ]
        refine iSkip 11 hro ?_
        try simp only [Act.put, List.setIfInBounds_toArray, List.set_cons_zero, List.set_cons_succ]
        refine iSkip 12 hro ?_
        try simp only [Act.put, List.setIfInBounds_toArray, List.set_cons_zero, List.set_cons_succ]
        refine iSkip 13 hro ?_
        try simp only [Act.put, List.setIfInBounds_toArray, List.set_cons_zero, List.set_cons_succ]
        refine iSkip 14 hro ?_
        try simp only [Act.put, List.setIfInBounds_toArray, List.set_cons_zero, List.set_cons_succ]
        refine iSkip 15 hro ?_
        try simp only [Act.put, List.setIfInBounds_toArray, List.set_cons_zero, List.set_cons_succ]
        refine iSkip 16 hro ?_
        try simp only [Act.put, List.setIfInBounds_toArray, List.set_cons_zero, List.set_cons_succ]
        refine iOne 17 (fun K hK => ?_)
        go_simp
        first | (refine ⟨fun _ h => (by cases h), ?_⟩; refine hK _ _ ?_) | refine hK _ _ ?_
        clear hK K
        try simp only [Act.put, List.setIfInBounds_toArray, List.set_cons_zero, List.set_cons_succ]
        refine iTake 18 hro ?_
        try simp only [Act.put, List.setIfInBounds_toArray, List.set_cons_zero, List.set_cons_succ]
        refine iTake 19 hro ?_
        try simp only [Act.put, List.setIfInBounds_toArray, List.set_cons_zero, List.set_cons_succ]
        refine iSkip 20 hro ?_
        try simp only [Act.put, List.setIfInBounds_toArray, List.set_cons_zero, List.set_cons_succ]
        refine iSkip 21 hro ?_
        try simp only [Act.put, List.setIfInBounds_toArray, List.set_cons_zero, List.set_cons_succ]
        refine iSkip 22 hro ?_
        try simp only [Act.put, List.setIfInBounds_toArray, List.set_cons_zero, List.set_cons_succ]
        refine iSkip 23 hro ?_
        try simp only [Act.put, List.setIfInBounds_toArray, List.set_cons_zero, List.set_cons_succ]
        refine iSkip 24 hro ?_
        try simp only [Act.put, List.setIfInBounds_toArray, List.set_cons_zero, List.set_cons_succ]
        refine iSkip 25 hro ?_
        try simp only [Act.put, List.setIfInBounds_toArray, List.set_cons_zero, List.set_cons_succ]
        refine iOne 26 (fun K hK => ?_)
        go_simp
        refine hK _ _ ?_
        clear hK K
        try simp only [Act.put, List.setIfInBounds_toArray, List.set_cons_zero, List.set_cons_succ]
        refine iTake 27 hro ?_
        try simp only [Act.put, List.setIfInBounds_toArray, List.set_cons_zero, List.set_cons_succ]
        refine iTake 28 hro ?_
        try simp only [Act.put, List.setIfInBounds_toArray, List.set_cons_zero, List.set_cons_succ]
        refine wpAnyIn_done (by kernel_rfl) ?_ _
        gi_wp2
        go_ret
        exact .inr ⟨rfl, q, hq.trans (by simp), hx1⟩
    · have k1 := lt_bytes hk
      have hf : (AT.node b e tl tr h).from_ f = tr.from_ f := by simp only [AT.from_, hk, if_true]
      rw [hf] at hN ⊢
      have I := ihr (n - 1) pre W ir hb0 hJ hN
      have HI := Lib.hid I
      clear I ihl ihr hY
      refine callsIn_of_wp Try.func172 rfl hwf ?_ hro
      simp only [adr_node, Try.ntmps172, List.size_toArray, List.length_cons, List.length_nil, Nat.reduceAdd, Nat.reduceSub, Array.replicate_succ, Array.replicate_zero, List.push_toArray, List.append_toArray, List.nil_append, List.cons_append]
      gi_wp2_with ((try refine ⟨hdd _, ?_⟩); gi_at_call 172; refine HI.out.mono ?_; clear HI; rintro e W1 (⟨rfl, hJ1, hb1⟩ | ⟨rfl, q, hq, hx⟩))
      · go_ret
        exact .inl ⟨rfl, hJ1, hb1⟩
      · go_ret
        exact .inr ⟨rfl, q, hq, hx⟩
set_option maxRecDepth 100000 in
set_option maxHeartbeats 1000000 in
theorem from1_in (F : Fence) (hd : F.depth = none) (n : Nat) (h5 : F.fn 171) (h6 : F.fn 172) (hro : F.round = none) (l Bt Bk : Nat) (W0 : World) (T : AT) (k : ByteArray) (J Jx : List Ent → World → Prop) (hJd : ∀ pre W, J pre W → J pre W.drew)
    (hY : ∀ pre x W, J pre W → pre.length < (T.from_ k).length → YieldAt F (n - 1) Try.prog l (encE x) W fun e W' =>
      (e = .returned (.bool true) ∧ J (pre ++ [x]) W' ∧ Below W0.heap.size W W') ∨ (e = .returned (.bool false) ∧ Jx (pre ++ [x]) W'))
    (W : World) (hBt : W.cell? ⟨Bt, 0, none⟩ = some (.pointer T.adr)) (hBk : W.cell? ⟨Bk, 0, none⟩ = some (.string k)) (hT : T.In W0) (hb : Below W0.heap.size W0 W) (h0 : J [] W) :
    CallsIn F n Try.prog 171 #[.func (.yield l) #[] #[], .pointer (some ⟨Bt, 0, none⟩), .pointer (some ⟨Bk, 0, none⟩)] W fun e W' => (∃ v, e = .returned v) ∧
      ((∃ ys, ys = T.from_ k ∧ J ys W') ∨ (∃ pre, pre <+: T.from_ k ∧ Jx pre W')) := by
  have hdd : ∀ k : Nat, (F.depth.isSome = true → 1 ≤ k) := fun k h => by rw [hd] at h; cases h
  have hp := walk_in F hd h6 hro l W0 (T.from_ k).length k J Jx hJd (fun m pre x W hj hl => YieldAt_anyDepth hd m (hY pre x W hj hl)) T (n - 1) [] W hT hb h0 (by simp)
  refine callsIn_of_wp Try.func171 rfl h5 ?_ hro
  simp only [Try.ntmps171, List.size_toArray, List.length_cons, List.length_nil, Nat.reduceAdd, Nat.reduceSub, Array.replicate_succ, Array.replicate_zero, List.push_toArray, List.append_toArray, List.nil_append, List.cons_append]
  gi_wp2_with ((try refine ⟨hdd _, ?_⟩); gi_at_call 172; refine hp.mono ?_; clear hp; rintro e W1 (⟨rfl, hJ1, _⟩ | ⟨rfl, q, hq, hx⟩))
  · go_end0
    exact ⟨⟨_, rfl⟩, .inl ⟨_, rfl, by simpa using hJ1⟩⟩
  · go_end0
    exact ⟨⟨_, rfl⟩, .inr ⟨q, hq, by simpa using hx⟩⟩
set_option maxHeartbeats 1000000 in
theorem from_in (T : AT) (k : ByteArray) (w : World) :
    Calls Try.prog 116 #[.pointer T.adr, .string k] w fun e w' => e = .returned (.func (.func 171) #[] #[.pointer (some ⟨w.heap.size, 0, none⟩), .pointer (some ⟨w.heap.size + 1, 0, none⟩)]) ∧ w' = (w.alloc (.cells #[.pointer T.adr] 164)).alloc (.cells #[.string k] 9) := by
  go_enter Try.func116, Try.ntmps116
  go_wp2
  go_ret
  exact ⟨rfl, rfl⟩
theorem from_stops (F : Fence) (hd : F.depth = none) (n : Nat) (h5 : F.fn 171) (h6 : F.fn 172) (hro : F.round = none) (Bt Bk : Nat) (W0 : World) (T : AT) (k : ByteArray) (w : World) (hBt : Bt < w.heap.size) (hBk : Bk < w.heap.size)
    (h0 : W0.heap.size ≤ w.heap.size) (hT : T.In W0) (hb : Below W0.heap.size W0 w) (hc : w.cell? ⟨Bt, 0, none⟩ = some (.pointer T.adr)) (hk : w.cell? ⟨Bk, 0, none⟩ = some (.string k)) :
    SeqStopsK F n Try.prog 171 #[.pointer (some ⟨Bt, 0, none⟩), .pointer (some ⟨Bk, 0, none⟩)] encE (Below W0.heap.size) (fun ys => ys = T.from_ k) (fun pre => pre <+: T.from_ k) (T.from_ k).length w := fun l J Jx W hW hJ _ hY hj =>
  from1_in F hd n h5 h6 hro l Bt Bk W0 T k J Jx (fun pre W1 h => hJ pre W1 W1.drew none h ⟨rfl, rfl, rfl, Nat.le_refl _, fun _ _ _ => rfl⟩ (fun r e => by cases e)) hY W ((hW.cell (p := ⟨Bt, 0, none⟩) hBt).trans hc) ((hW.cell (p := ⟨Bk, 0, none⟩) hBk).trans hk) hT (hb.trans (hW.mono h0)) hj
end Go.Proofs.Ytobanhbjkomieaa.TA
end
