import Derived.Test.YtobanhbjkomieaaVGSb
import Derived.Test.YtobanhbjkomieaaVCSb
namespace Go.Proofs.Ytobanhbjkomieaa.OP
open Go.ChangeShapes Go.WideShapes Go.Deep Go.Proofs.YtobanhbjkomieaaW.PrintWords
set_option linter.unusedSimpArgs false
set_option linter.unusedVariables false
def okAct (x : PTr.S96) : Prop := True ∧ TA.okX x.f1 ∧ small x.f2 ∧ wf64 x.f3
set_option maxRecDepth 100000 in
theorem opens_Act (w : World) : Opens Try.prog w 96 PTr.k96 okAct :=
  opens_ok (opens_iso (opens_struct (d := Kd.pair (Kd.int .u8) (Kd.pair PTr.k34 (Kd.pair Kd.string I64))) (ok := fun x => (Lit.int .u8 x.1).wf = true ∧ TA.okX x.2.1 ∧ small x.2.2.1 ∧ wf64 x.2.2.2) Try.underlying96 (by kernel_rfl) (seg_cons (opens_int Try.underlying5 (by kernel_rfl)) rfl
    (seg_cons (opens_Txn w) rfl (seg_cons (opens_string Try.underlying9 (by kernel_rfl)) rfl (seg_one (opens_int Try.underlying2 (by kernel_rfl)) rfl)))))
    (fun x : PTr.S96 => (x.f0, x.f1, x.f2, x.f3)) (fun a => ⟨a.1, a.2.1, a.2.2.1, a.2.2.2⟩) (fun _ => rfl)) (fun x h => ⟨trivial, h.2.1, h.2.2.1, h.2.2.2⟩)
theorem opens_Acts (w : World) : Opens Try.prog w 90 (Kd.slice 96 PTr.k96) (fun l => (∀ x ∈ l, okAct x) ∧ l.length ≤ maxLen) :=
  opens_slice (opens_Act w) Try.underlying90 (by kernel_rfl)
end Go.Proofs.Ytobanhbjkomieaa.OP
namespace Go.Proofs.Ytobanhbjkomieaa.TA
open Go Go.RowKit Go.Proofs.Ytobanhbjkomieaa.KP Go.Proofs.YtobanhbjkomieaaW.PrintWords Go.Proofs.YtobanhbjkomieaaW.PrintLast Go.Proofs.YtobanhbjkomieaaW.PrintMore
open Go.Proofs.Ytobanhbjkomieaa.RP (wTake wSkip wOne wpAnyH_cast below_next0)
set_option linter.unusedSimpArgs false
set_option linter.unusedVariables false
abbrev AcP := PTr.S96
theorem at_Act {w : World} {A : Option Addr} {l : List AcP} (h : Kd.C PTr.k96 w A l.length l) {k : Nat} (hk : k < l.length) :
    ∃ ad A0 c0 A1 c1, A = some ad ∧ w.cell? (ad.add (k * 5)) = some (.int .u8 l[k].f0) ∧ w.cell? ⟨(ad.add (k * 5)).block, (ad.add (k * 5)).off + 1, none⟩ = some (.slice A0 (toX l[k].f1).cs.length c0) ∧ w.cell? ⟨(ad.add (k * 5)).block, (ad.add (k * 5)).off + 2, none⟩ = some (.slice A1 (toX l[k].f1).os.length c1) ∧
      w.cell? ⟨(ad.add (k * 5)).block, (ad.add (k * 5)).off + 3, none⟩ = some (.string l[k].f2) ∧ w.cell? ⟨(ad.add (k * 5)).block, (ad.add (k * 5)).off + 4, none⟩ = some (.int .i64 l[k].f3) ∧
      (toX l[k].f1).cs.length ≤ c0 ∧ Kd.C kCnd w A0 (toX l[k].f1).cs.length (toX l[k].f1).cs ∧ (toX l[k].f1).os.length ≤ c1 ∧ Kd.C kOpn w A1 (toX l[k].f1).os.length (toX l[k].f1).os := by
  obtain ⟨ad, c, e, _, hK, hc⟩ := Kd.C_get h PTr.z96 (k : Int) (by omega) (by omega)
  simp only [Int.toNat_natCast, List.getD_eq_getElem?_getD, List.getElem?_eq_getElem hk, Option.getD_some] at hK hc
  obtain ⟨A0, c0, A1, c1, rfl, l0, g0, l1, g1⟩ := PTr.k96_open hK
  have hc : ∀ j u, _ → w.cell? (ad.add (k * 5 + j)) = some u := hc
  have e0 : (toX l[k].f1).cs.length = l[k].f1.f0.length := List.length_map _
  have e1 : (toX l[k].f1).os.length = l[k].f1.f1.length := List.length_map _
  rw [e0, e1]
  exact ⟨ad, A0, c0, A1, c1, e, hc 0 _ rfl, by rw [← add_field _ _ 1 (by omega)]; exact hc 1 _ rfl, by rw [← add_field _ _ 2 (by omega)]; exact hc 2 _ rfl, by rw [← add_field _ _ 3 (by omega)]; exact hc 3 _ rfl, by rw [← add_field _ _ 4 (by omega)]; exact hc 4 _ rfl, l0, C_toC g0, l1, C_toO g1⟩
theorem long_l0 (l : List AcP) (hl : l.length ≤ maxLen) (hx : ∀ x ∈ l, OP.okAct x) : ∀ (d i : Nat) (n : Int), i + d = l.length → 20 * i ≤ n → n ≤ 24020 → ∃ b, Ev (fun k => PTr.batonlaw12_long.l0 k l n (i : Int)) b ∧ (b = false → (l.length : Int) * 20 < 6000)
  | 0, i, n, h, h0, h1 => by
    refine ⟨decide (n ≥ 6000), Ev.step (f := fun _ => some (decide (n ≥ 6000))) (fun k => ?_) (Ev.now _), fun hb => ?_⟩
    · simp only [PTr.batonlaw12_long.l0]
      rw [if_neg (by omega)]
    · have := of_decide_eq_false hb
      omega
  | d + 1, i, n, h, h0, h1 => by
    unfold maxLen at hl
    have hi : i < l.length := by omega
    by_cases c : n < 6000
    · obtain ⟨⟨_, k1⟩, _, k2⟩ := (hx l[i] (List.getElem_mem hi)).2.1
      obtain ⟨r, hr, h2, h3⟩ := weight_ev l[i].f1.f0 l[i].f1.f1 k1 k2
      have b1 := mn_bd (a := 6000) (b := ((l[i].f2).size : Int)) (by omega) (by omega)
      obtain ⟨b, hb, h4⟩ := long_l0 l (by unfold maxLen; omega) hx d (i + 1) (n + 10 + r + mn 6000 ((l[i].f2).size : Int)) (by omega) (by omega) (by omega)
      refine ⟨b, Ev.step (f := fun k => (PTr.batonlaw12_weight.f k l[i].f1.f0 l[i].f1.f1).bind fun t => PTr.batonlaw12_long.l0 k l (wrap64 ((wrap64 ((wrap64 (n + 10)) + t)) + (mn 6000 ((l[i].f2).size : Int)))) ((i + 1 : Nat) : Int)) (fun k => ?_) (Ev.bind hr ?_), h4⟩
      · simp only [PTr.batonlaw12_long.l0]
        have hg : PTr.rd_T96 l (i : Int) = l[i] := by simp [PTr.rd_T96, List.getD_eq_getElem?_getD, List.getElem?_eq_getElem hi]
        have hw : wrap64 ((i : Int) + 1) = ((i + 1 : Nat) : Int) := by unfold wrap64; omega
        rw [if_pos (by omega), if_pos c, if_pos (by omega), hg, hw]
      · generalize mn 6000 ((l[i].f2).size : Int) = p at *
        rw [show wrap64 (wrap64 (wrap64 (n + 10) + r) + p) = n + 10 + r + p by unfold wrap64; omega]
        exact hb
    · refine ⟨true, Ev.step (f := fun _ => some true) (fun k => ?_) (Ev.now _), fun hb => by cases hb⟩
      simp only [PTr.batonlaw12_long.l0]
      rw [if_pos (by omega), if_neg c, decide_eq_true (by omega)]
theorem long_any (l : List AcP) (hl : l.length ≤ maxLen) (hx : ∀ x ∈ l, OP.okAct x) : ∃ b, (b = false → l.length ≤ 300) ∧ ∀ (A : Option Addr) (c : Nat) (w : World), l.length ≤ c → Kd.C PTr.k96 w A l.length l →
    Calls Try.prog 60 #[.slice A l.length c] w fun e w' => e = .returned (.bool b) ∧ Below w.heap.size w w' := by
  obtain ⟨b, hb, h⟩ := long_l0 l hl hx l.length 0 0 (by omega) (by omega) (by omega)
  refine ⟨b, fun e => by have := h e; omega, fun A c w hc hC => ?_⟩
  exact ev_calls hb (fun k hk => PTr.batonlaw12_long.calls k A c l b w hC hc hk)
theorem insL_keys {P : ByteArray → Prop} {x : Ent} (hx : P x.key) {l : List Ent} (h : ∀ y ∈ l, P y.key) : ∀ y ∈ insL x l, P y.key := fun y hy => by
  rcases ins_mem hy with rfl | hy
  · exact hx
  · exact h y hy
theorem opL_keys {P : ByteArray → Prop} {rev : Int} {o : Opn} (ho : P o.key) {l : List Ent} (h : ∀ y ∈ l, P y.key) : ∀ y ∈ (opL rev o l).1, P y.key := by
  unfold opL
  cases o.del
  · simp only [Bool.false_eq_true, if_false]
    exact insL_keys ho h
  · simp only [if_true]
    split
    · exact fun y hy => h y (del_mem hy)
    · exact h
theorem opsL_keys {P : ByteArray → Prop} {rev : Int} : ∀ {os : List Opn} {l : List Ent}, (∀ o ∈ os, P o.key) → (∀ y ∈ l, P y.key) → ∀ y ∈ (opsL rev os l).1, P y.key
  | [], _, _, h => h
  | o :: os, l, ho, h => by
    simp only [opsL]
    exact opsL_keys (fun q hq => ho q (List.mem_cons_of_mem _ hq)) (opL_keys (ho o (List.mem_cons_self ..)) h)
theorem do_keys {P : ByteArray → Prop} {may : Bool} {cs : List Cnd} {os : List Opn} {m : Md} (ho : ∀ o ∈ os, P o.key) (h : ∀ y ∈ m.row, P y.key) : ∀ y ∈ (doM may cs os m).1.row, P y.key := by
  unfold doM
  split
  · exact h
  · split
    · exact h
    · split
      · exact h
      · split
        · exact h
        · exact opsL_keys ho h
theorem Rt.setRow {W : World} {b : Nat} {m : Md} {A B : Option Addr} {ca cb : Nat} (h : Rt W b m A ca B cb) {g : Nat} {cells : Array Value} {E : TypeId} (hg : W.heap[g]? = some (.cells cells E (0, 0))) (hE : 94 ≠ E) (hf : ∀ a, A = some a → 0 < m.row.length → a.block ≠ g) (hf2 : ∀ a, B = some a → 0 < m.hap.length → a.block ≠ g) (j : Nat) (u : Value) :
    Rt (W.setCell ⟨g, j, none⟩ u) b m A ca B cb :=
  ⟨(Below.heap_setCell W ⟨g, j, none⟩ u b (far_type hg h.blk hE)).trans h.blk, C_keepE h.row (fun a ha hn => Below.heap_setCell W ⟨g, j, none⟩ u a.block (hf a ha hn)), C_keep h.hap (fun a ha hn => Below.heap_setCell W ⟨g, j, none⟩ u a.block (hf2 a ha hn)), h.cap⟩
end Go.Proofs.Ytobanhbjkomieaa.TA
