import Derived.Test.YtobanhbjkomieaaTHSb
section
namespace Go.Proofs.Ytobanhbjkomieaa.TA
open Go Go.RowKit Go.Proofs.Ytobanhbjkomieaa.KP Go.Proofs.YtobanhbjkomieaaW.PrintWords Go.Proofs.YtobanhbjkomieaaW.PrintLast Go.Proofs.YtobanhbjkomieaaW.PrintMore
open Go.Proofs.Ytobanhbjkomieaa.RP (wTake wSkip wOne wpAnyH_cast keep_cell below_next0)
set_option linter.unusedSimpArgs false
set_option linter.unusedVariables false
abbrev trC (t : AT) (m : Md) (ad : Option Addr) (c : Nat) : Array Value := #[.pointer t.adr, .int .i64 (m.row.length : Int), .int .i64 m.rev, .int .i64 m.low, .slice ad m.hap.length c]
structure At (W : World) (tb : Nat) (t : AT) (m : Md) (ad : Option Addr) (c : Nat) : Prop where
  blk : W.heap[tb]? = some (.cells (trC t m ad c) 166 (0, 0))
  ins : t.In W
  tall : t.Tall
  row : t.row = m.row
  hap : Kd.C kEvt W ad m.hap.length m.hap
  cap : m.hap.length ≤ c
  ok : Ok m
theorem At.below {W W' : World} {tb : Nat} {t : AT} {m : Md} {ad : Option Addr} {c : Nat} (h : At W tb t m ad c) (hb : Below W.heap.size W W') : At W' tb t m ad c :=
  ⟨(hb.block _ (blk_lt h.blk)).trans h.blk, h.ins.below hb, h.tall, h.row, Kd.C_below h.hap hb, h.cap, h.ok⟩
theorem At.srt {W : World} {tb : Nat} {t : AT} {m : Md} {ad : Option Addr} {c : Nat} (h : At W tb t m ad c) : Srt t.row := by rw [h.row]; exact h.ok.srt
set_option maxHeartbeats 2000000 in
set_option maxRecDepth 100000 in
theorem rev_any (tb : Nat) (t : AT) (m : Md) (ad : Option Addr) (c : Nat) (w : World) (hT : At w tb t m ad c) : Calls Try.prog 41 #[.pointer (some ⟨tb, 0, none⟩)] w fun e w' => e = .returned (.int .i64 m.rev) ∧ Below w.heap.size w w' := by
  have z : w.cell? ⟨tb, 2, none⟩ = some (.int .i64 m.rev) := (blk_cell hT.blk 2).trans rfl
  clear hT
  go_enter Try.func41, Try.ntmps41
  go_wp2
  go_ret
  exact ⟨rfl, Below.refl _ _⟩
set_option maxHeartbeats 2000000 in
set_option maxRecDepth 100000 in
theorem len_any (tb : Nat) (t : AT) (m : Md) (ad : Option Addr) (c : Nat) (w : World) (hT : At w tb t m ad c) : Calls Try.prog 48 #[.pointer (some ⟨tb, 0, none⟩)] w fun e w' => e = .returned (.int .i64 (m.row.length : Int)) ∧ Below w.heap.size w w' := by
  have z : w.cell? ⟨tb, 1, none⟩ = some (.int .i64 (m.row.length : Int)) := (blk_cell hT.blk 1).trans rfl
  clear hT
  go_enter Try.func48, Try.ntmps48
  go_wp2
  go_ret
  exact ⟨rfl, Below.refl _ _⟩
set_option maxHeartbeats 2000000 in
set_option maxRecDepth 100000 in
theorem low_any (tb : Nat) (t : AT) (m : Md) (ad : Option Addr) (c : Nat) (w : World) (hT : At w tb t m ad c) : Calls Try.prog 59 #[.pointer (some ⟨tb, 0, none⟩)] w fun e w' => e = .returned (.int .i64 m.low) ∧ Below w.heap.size w w' := by
  have z : w.cell? ⟨tb, 3, none⟩ = some (.int .i64 m.low) := (blk_cell hT.blk 3).trans rfl
  clear hT
  go_enter Try.func59, Try.ntmps59
  go_wp2
  go_ret
  exact ⟨rfl, Below.refl _ _⟩
set_option maxHeartbeats 2000000 in
set_option maxRecDepth 100000 in
theorem treeGet_any (tb : Nat) (t : AT) (m : Md) (ad : Option Addr) (c : Nat) (w : World) (hT : At w tb t m ad c) (k : ByteArray) : Calls Try.prog 46 #[.pointer (some ⟨tb, 0, none⟩), .string k] w fun e w' => e = .returned (.tuple #[entV (getD k m.row), .bool (getL k m.row).isSome]) ∧ Below w.heap.size w w' := by
  have hg := fun W hW => get_any t k W hW hT.srt
  rw [hT.row] at hg
  generalize getD k m.row = x at *
  generalize (getL k m.row).isSome = b at *
  have HG := Lib.hid hg
  have z : w.cell? ⟨tb, 0, none⟩ = some (.pointer t.adr) := (blk_cell hT.blk 0).trans rfl
  have lz := blk_lt hT.blk
  have IT := Lib.hid hT.ins
  clear hg hT
  go_enter Try.func46, Try.ntmps46
  go_wp2_with fail
  have Bw := below_alloc (Below.refl w.heap.size w) (.cells #[.string ⟨#[]⟩, .string ⟨#[]⟩, .int .i64 0, .int .i64 0] 62)
  refine (HG.out _ (AT.In.below Bw IT.out)).mono ?_
  rintro e w1 ⟨rfl, hq⟩
  have HP := (hq.block w.heap.size (by simp)).trans (heap_alloc_new w (.cells #[.string ⟨#[]⟩, .string ⟨#[]⟩, .int .i64 0, .int .i64 0] 62))
  have B1 := Bw.trans (hq.mono (by simp))
  clear hq Bw z lz
  have c0 := blk_cell HP 0
  have f0 := blk_frozen HP 0
  have c1 := blk_cell HP 1
  have f1 := blk_frozen HP 1
  have c2 := blk_cell HP 2
  have f2 := blk_frozen HP 2
  have c3 := blk_cell HP 3
  have f3 := blk_frozen HP 3
  simp only [List.getElem?_toArray, List.getElem?_cons_zero, List.getElem?_cons_succ] at c0 c1 c2 c3
  go_wp2
  refine bodyPost_ret (results_ct rfl _ _ w.heap.size 62 #[.string x.key, .string x.val, .int .i64 x.made, .int .i64 x.mod] (0, 0) _ rfl (blk_put (cs := #[.string x.key, .string x.val, .int .i64 x.made, .int .i64 0]) (blk_put (cs := #[.string x.key, .string x.val, .int .i64 0, .int .i64 0]) (blk_put (cs := #[.string x.key, .string ⟨#[]⟩, .int .i64 0, .int .i64 0]) (blk_put (cs := #[.string ⟨#[]⟩, .string ⟨#[]⟩, .int .i64 0, .int .i64 0]) HP 0 (.string x.key) rfl) 1 (.string x.val) rfl) 2 (.int .i64 x.made) rfl) 3 (.int .i64 x.mod) rfl) Try.underlying62 rfl (by kernel_rfl)) rfl ?_
  exact ⟨rfl, ((((B1.setCell (p := ⟨w.heap.size, 0, none⟩) (Nat.le_refl _) (.string x.key)).setCell (p := ⟨w.heap.size, 1, none⟩) (Nat.le_refl _) (.string x.val)).setCell (p := ⟨w.heap.size, 2, none⟩) (Nat.le_refl _) (.int .i64 x.made)).setCell (p := ⟨w.heap.size, 3, none⟩) (Nat.le_refl _) (.int .i64 x.mod))⟩
set_option maxHeartbeats 2000000 in
set_option maxRecDepth 100000 in
theorem holdsC_any (tb : Nat) (t : AT) (m : Md) (ad : Option Addr) (c : Nat) (w : World) (hT : At w tb t m ad c) (p : Nat) (hp : w.cell? ⟨p, 0, none⟩ = some (.pointer (some ⟨tb, 0, none⟩))) (x : Cnd) : Calls Try.prog 130 #[.agg #[.string x.key, .int .i64 x.mod], .pointer (some ⟨p, 0, none⟩)] w fun e w' => e = .returned (.bool (!decide ((getD x.key m.row).mod = x.mod))) ∧ Below w.heap.size w w' := by
  have hg := fun W hW => treeGet_any tb t m ad c W hW x.key
  generalize getD x.key m.row = y at *
  generalize (getL x.key m.row).isSome = b at *
  have HG := Lib.hid hg
  have HT := Lib.hid hT
  have lp := World.block_lt_of_cell? _ _ hp
  clear hg hT
  by_cases hm : y.mod = x.mod
  · have h1 : (y.mod == x.mod) = true := beq_iff_eq.2 hm
    have h2 : (y.mod != x.mod) = false := by rw [bne, h1]; rfl
    go_enter Try.func130, Try.ntmps130
    go_wp2_with fail
    have Bw := below_alloc (Below.refl w.heap.size w) (.cells #[.string x.key, .int .i64 x.mod] 73)
    refine (HG.out _ (HT.out.below Bw)).mono ?_
    rintro e w1 ⟨rfl, hq⟩
    have HP := (hq.block w.heap.size (by simp)).trans (heap_alloc_new w (.cells #[.string x.key, .int .i64 x.mod] 73))
    have B1 := Lib.hid (Bw.trans (hq.mono (by simp)))
    clear hq Bw hp lp
    have c0 := blk_cell HP 0
    have c1 := blk_cell HP 1
    have lP := blk_lt HP
    simp only [List.getElem?_toArray, List.getElem?_cons_zero, List.getElem?_cons_succ] at c0 c1
    go_wp2
    go_ret
    exact ⟨by simp [hm], below_alloc B1.out _⟩
  · have h1 : (y.mod == x.mod) = false := beq_eq_false_iff_ne.2 hm
    have h2 : (y.mod != x.mod) = true := by rw [bne, h1]; rfl
    go_enter Try.func130, Try.ntmps130
    go_wp2_with fail
    have Bw := below_alloc (Below.refl w.heap.size w) (.cells #[.string x.key, .int .i64 x.mod] 73)
    refine (HG.out _ (HT.out.below Bw)).mono ?_
    rintro e w1 ⟨rfl, hq⟩
    have HP := (hq.block w.heap.size (by simp)).trans (heap_alloc_new w (.cells #[.string x.key, .int .i64 x.mod] 73))
    have B1 := Lib.hid (Bw.trans (hq.mono (by simp)))
    clear hq Bw hp lp
    have c0 := blk_cell HP 0
    have c1 := blk_cell HP 1
    have lP := blk_lt HP
    simp only [List.getElem?_toArray, List.getElem?_cons_zero, List.getElem?_cons_succ] at c0 c1
    go_wp2
    go_ret
    exact ⟨by simp [hm], below_alloc B1.out _⟩
theorem holdsL_any {cs : List Cnd} {l : List Ent} : holdsL cs l = !cs.any (fun c => !decide ((getD c.key l).mod = c.mod)) := by
  unfold holdsL
  induction cs with
  | nil => rfl
  | cons c cs ih => simp [List.all_cons, List.any_cons, ih]
set_option maxHeartbeats 2000000 in
set_option maxRecDepth 100000 in
theorem holds_any (tb : Nat) (t : AT) (m : Md) (ad : Option Addr) (c : Nat) (w : World) (hT : At w tb t m ad c) (A : Option Addr) (ca : Nat) (cs : List Cnd) (hca : cs.length ≤ ca) (hA : Kd.C kCnd w A cs.length cs) (hl : cs.length ≤ 9223372036854775807) :
    Calls Try.prog 53 #[.pointer (some ⟨tb, 0, none⟩), .slice A cs.length ca] w fun e w' => e = .returned (.bool (holdsL cs m.row)) ∧ Below w.heap.size w w' := by
  have Bw := below_alloc (Below.refl w.heap.size w) (.cells #[.pointer (some ⟨tb, 0, none⟩)] 49)
  have HP := heap_alloc_new w (.cells #[.pointer (some ⟨tb, 0, none⟩)] 49)
  have HH := hasCndC_any (fun c => !decide ((getD c.key m.row).mod = c.mod)) 130 ⟨w.heap.size, 0, none⟩ (Go.Proofs.enters_of Try.func130 (by kernel_rfl) rfl) A ca cs (w.alloc (.cells #[.pointer (some ⟨tb, 0, none⟩)] 49)) hca (Kd.C_below hA Bw) hl (fun x _ V hV => holdsC_any tb t m ad c V ((hT.below Bw).below hV) w.heap.size ((hV.cell (p := ⟨w.heap.size, 0, none⟩) (by simp)).trans ((blk_cell HP 0).trans rfl)) x)
  rw [holdsL_any]
  generalize cs.any (fun c => !decide ((getD c.key m.row).mod = c.mod)) = b at *
  have HC := Lib.hid HH
  have BW := Lib.hid Bw
  clear HH hA hT HP Bw
  go_enter Try.func53, Try.ntmps53
  go_wp2_with fail
  refine HC.out.mono ?_
  rintro e w1 ⟨rfl, hq⟩
  go_wp2
  go_ret
  exact ⟨rfl, BW.out.trans (hq.mono (by simp))⟩
end Go.Proofs.Ytobanhbjkomieaa.TA
end
section
namespace Go.Proofs.Ytobanhbjkomieaa.TA
open Go Go.RowKit Go.Proofs.Ytobanhbjkomieaa.KP Go.Proofs.YtobanhbjkomieaaW.PrintWords Go.Proofs.YtobanhbjkomieaaW.PrintLast Go.Proofs.YtobanhbjkomieaaW.PrintMore
set_option linter.unusedSimpArgs false
set_option linter.unusedVariables false
set_option maxHeartbeats 2000000 in
set_option maxRecDepth 100000 in
theorem new_any (w : World) : Calls Try.prog 61 #[] w fun e w' => ∃ g, e = .returned (.pointer (some ⟨g, 0, none⟩)) ∧ w.heap.size ≤ g ∧ At w' g AT.nil Md.new none 0 ∧ Below w.heap.size w w' := by
  go_enter Try.func61, Try.ntmps61
  go_wp2
  go_ret
  exact ⟨w.heap.size, rfl, Nat.le_refl _, ⟨heap_alloc_new w _, trivial, trivial, rfl, Kd.C_nil _ _, Nat.le_refl _, ok_new⟩, below_alloc (Below.refl _ _) _⟩
set_option maxHeartbeats 2000000 in
set_option maxRecDepth 100000 in
theorem copy_any (tb : Nat) (t : AT) (m : Md) (ad : Option Addr) (c : Nat) (w : World) (hT : At w tb t m ad c) : Calls Try.prog 51 #[.pointer (some ⟨tb, 0, none⟩)] w fun e w' => ∃ g, e = .returned (.pointer (some ⟨g, 0, none⟩)) ∧ w.heap.size ≤ g ∧ At w' g t m ad c ∧ Below w.heap.size w w' := by
  have HT := Lib.hid hT
  have z0 := blk_cell hT.blk 0
  have z1 := blk_cell hT.blk 1
  have z2 := blk_cell hT.blk 2
  have z3 := blk_cell hT.blk 3
  have z4 := blk_cell hT.blk 4
  simp only [List.getElem?_toArray, List.getElem?_cons_zero, List.getElem?_cons_succ] at z0 z1 z2 z3 z4
  have lb := blk_lt hT.blk
  clear hT
  go_enter Try.func51, Try.ntmps51
  go_wp2
  go_ret
  have Bw := below_alloc (Below.refl w.heap.size w) (.cells (trC t m ad c) 166)
  exact ⟨w.heap.size, rfl, Nat.le_refl _, ⟨heap_alloc_new w _, HT.out.ins.below Bw, HT.out.tall, HT.out.row, Kd.C_below HT.out.hap Bw, HT.out.cap, HT.out.ok⟩, Bw⟩
end Go.Proofs.Ytobanhbjkomieaa.TA
end
section
namespace Go.Proofs.Ytobanhbjkomieaa.TA
open Go Go.RowKit Go.Proofs.YtobanhbjkomieaaW.PrintWords Go.Proofs.YtobanhbjkomieaaW.PrintLast Go.Proofs.YtobanhbjkomieaaW.PrintMore
set_option linter.unusedSimpArgs false
set_option linter.unusedVariables false
theorem addb (a : Addr) (n : Nat) : (a.add n).block = a.block := by unfold Addr.add; split <;> rfl
theorem kEvt_any {w : World} {x : Evt} {cs : List Value} (w' : World) (h : kEvt.K w x cs) : kEvt.K w' x cs := by
  obtain ⟨_, _, rfl, rfl, ⟨_, _, rfl, rfl, ⟨_, _, rfl, rfl, rfl⟩⟩⟩ := h
  exact kEvt_mk w' x
theorem C_keep {w w' : World} {A : Option Addr} {n : Nat} {l : List Evt} (h : Kd.C kEvt w A n l) (hk : ∀ ad, A = some ad → 0 < n → w'.heap[ad.block]? = w.heap[ad.block]?) : Kd.C kEvt w' A n l := by
  obtain ⟨h1, h2, h3⟩ := h
  refine ⟨h1, h2, fun hn => ?_⟩
  obtain ⟨ad, e, hc⟩ := h3 hn
  refine ⟨ad, e, fun j p hp => ?_⟩
  obtain ⟨c, hl, hK, hu⟩ := hc j p hp
  exact ⟨c, hl, kEvt_any w' hK, fun i u hi => (World.cell?_of_block (a := ad.add (j * kEvt.sz + i)) (by rw [addb]; exact hk ad e hn)).trans (hu i u hi)⟩
theorem hap_cell {W : World} {A : Option Addr} {l : List Evt} (h : Kd.C kEvt W A l.length l) (a : Addr) (ha : A = some a) (hn : 0 < l.length) : ∃ j b, W.cell? ⟨a.block, j, none⟩ = some (.bool b) := by
  obtain ⟨ad, e, _, hc, _⟩ := at_Evt h hn
  obtain rfl : a = ad := Option.some.inj (ha.symm.trans e)
  rw [addb] at hc
  exact ⟨_, _, hc⟩
theorem hap_far {W : World} {A : Option Addr} {l : List Evt} (h : Kd.C kEvt W A l.length l) {g : Nat} {t : AT} {m : Md} {ad : Option Addr} {c : Nat} {T : TypeId} (hg : W.heap[g]? = some (.cells (trC t m ad c) T (0, 0))) (a : Addr) (ha : A = some a) (hn : 0 < l.length) : a.block ≠ g := by
  obtain ⟨j, b, hc⟩ := hap_cell h a ha hn
  rintro rfl
  rw [blk_cell hg j] at hc
  match j, hc with
  | 0, hc => cases hc
  | 1, hc => cases hc
  | 2, hc => cases hc
  | 3, hc => cases hc
  | 4, hc => cases hc
  | j + 5, hc => simp at hc
theorem hap_lt {W : World} {A : Option Addr} {l : List Evt} (h : Kd.C kEvt W A l.length l) (a : Addr) (ha : A = some a) (hn : 0 < l.length) : a.block < W.heap.size := by
  obtain ⟨j, b, hc⟩ := hap_cell h a ha hn
  exact World.block_lt_of_cell? _ ⟨a.block, j, none⟩ hc
theorem At.kb {W W' : World} {tb : Nat} {t : AT} {m : Md} {ad : Option Addr} {c : Nat} (h : At W tb t m ad c) {g : Nat} {t2 : AT} {m2 : Md} {ad2 : Option Addr} {c2 : Nat}
    (hg : W.heap[g]? = some (.cells (trC t2 m2 ad2 c2) 166 (0, 0))) (hne : tb ≠ g) (hb : Kb g W W') : At W' tb t m ad c :=
  ⟨hb.blk h.blk hne, h.ins.kb hg (by decide) hb, h.tall, h.row, C_keep h.hap (fun a ha hn => hb.block _ (hap_lt h.hap a ha hn) (hap_far h.hap hg a ha hn)), h.cap, h.ok⟩
theorem Kb.setNew {g : Nat} {W W1 : World} (h : Kb g W W1) {p : Addr} (hp : W.heap.size ≤ p.block) (u : Value) : Kb g W (W1.setCell p u) :=
  ⟨h.os, h.tape, h.output, by simpa [World.setCell] using h.size, fun i hi hg => (Below.heap_setCell W1 p u i (by omega)).trans (h.block i hi hg)⟩
theorem At.remade {W W' : World} {tb : Nat} {t : AT} {m : Md} {ad : Option Addr} {c : Nat} (h : At W tb t m ad c) (hb : Kb tb W W') {t' : AT} {m' : Md} (hh : m'.hap = m.hap)
    (hB : W'.heap[tb]? = some (.cells (trC t' m' ad c) 166 (0, 0))) (hi : t'.In W') (ht : t'.Tall) (hr : t'.row = m'.row) (ho : Ok m') : At W' tb t' m' ad c :=
  ⟨hB, hi, ht, hr, by rw [hh]; exact C_keep h.hap (fun a ha hn => hb.block _ (hap_lt h.hap a ha hn) (hap_far h.hap h.blk a ha hn)), by rw [hh]; exact h.cap, ho⟩
theorem ok_row {m : Md} (h : Ok m) {l : List Ent} (hs : Srt l) (hm : Made m.rev l) : Ok ⟨l, m.rev, m.low, m.hap⟩ := ⟨hs, h.lo, hm, h.hap, h.ris⟩
theorem cutXW {goal : Prop} (Facts : Nat → World → Prop) {G : Nat → World → Prop} (main : (∀ X W, Facts X W → G X W) → goal) (pf : ∀ X W, Facts X W → G X W) : goal := main pf
def entCells (x : Ent) : List Value := [.string x.key, .string x.val, .int .i64 x.made, .int .i64 x.mod]
theorem entCells_len : ∀ l : List Ent, (l.flatMap entCells).length = l.length * 4
  | [] => rfl
  | x :: l => by
    rw [List.flatMap_cons, List.length_append, entCells_len l, List.length_cons]
    show 4 + _ = _
    omega
theorem reps_ent {R : Ent → List Value → Prop} (hR : ∀ x, R x (entCells x)) : ∀ l : List Ent, Reps R 4 l (l.flatMap entCells)
  | [] => Reps.none _ _
  | x :: l => by
    refine ⟨by rw [entCells_len], fun j p hp => ?_⟩
    rw [List.flatMap_cons]
    match j, hp with
    | 0, hp =>
      obtain rfl : x = p := Option.some.inj hp
      exact hR x
    | j + 1, hp =>
      have := (reps_ent hR l).2 j p hp
      rw [show (j + 1) * 4 = 4 + j * 4 by omega, ← List.drop_drop]
      exact this
theorem R_flat {e : Nat} {w : World} {base : Nat} {ok : Nat → Prop} {v : Value} {l : List Ent} (ho : w.ownsRow base e 4 v l.length (l.flatMap entCells)) (hok : ∀ k, v.ownBlock = some k → ok k) : kEnt.R e w base ok v l :=
  ⟨hok, _, ho, reps_ent (fun x => kEnt_mkM _ _ _ _) l⟩
end Go.Proofs.Ytobanhbjkomieaa.TA
end
