import Derived.Test.YtobanhbjkomieaaUFSb
namespace Go.Proofs.Ytobanhbjkomieaa.KP
open Go.RowKit Go.Proofs.Ytobanhbjkomieaa.PAll Go.Proofs.YtobanhbjkomieaaW.PrintWords Go.Proofs.YtobanhbjkomieaaW.PrintLast
set_option linter.unusedSimpArgs false
set_option linter.unusedVariables false
theorem made_evB (l al : List UInt8) (h : ¬ l.length ≤ 64) (f : UInt8 → Bool) : Ev (fun k => batonref11_made.f k ⟨l.toArray⟩ ⟨al.toArray⟩ ((64 : Nat) : Int)) (decide (l.length ≤ 64) && l.all f) := by
  rw [decide_eq_false h, Bool.false_and]
  refine Ev.congr (f := fun _ => some false) (fun k => ?_) (Ev.now _)
  simp only [batonref11_made.f]
  rw [if_pos (by rw [size_mk]; omega)]
theorem rkey_evB (l : List UInt8) : Ev (fun k => batonref11_Key.f k ⟨l.toArray⟩) (isKey l) := by
  by_cases h : l.length ≤ 64
  · exact rkey_ev l (by omega)
  · have h1 := made_evB l (nameBytes ++ [47]) h (fun x => (nameBytes ++ [47]).any fun b => decide ((b.toNat : Int) = (x.toNat : Int)))
    rw [all_keys] at h1
    unfold isKey
    have h2 : l.isEmpty = false := by cases l <;> simp_all
    have hne : l.length ≠ 0 := by omega
    rw [h2, Bool.not_false, Bool.true_and, Bool.and_comm]
    refine Ev.congr (f := fun k => (batonref11_made.f k ⟨l.toArray⟩ ⟨(nameBytes ++ [47]).toArray⟩ ((64 : Nat) : Int)).bind fun t => some t) (fun k => ?_) (Ev.bind h1 (Ev.now _))
    simp only [batonref11_Key.f]
    rw [if_pos (by rw [size_mk]; omega)]
    rfl
theorem rprefix_evB (l : List UInt8) : Ev (fun k => batonref11_Prefix.f k ⟨l.toArray⟩) (isPrefix l) := by
  by_cases h : l.length ≤ 64
  · exact rprefix_ev l (by omega)
  · have h1 := made_evB l (nameBytes ++ [47]) h (fun x => (nameBytes ++ [47]).any fun b => decide ((b.toNat : Int) = (x.toNat : Int)))
    rw [all_keys] at h1
    unfold isPrefix
    rw [Bool.and_comm]
    exact Ev.bind h1 (Ev.now _)
theorem refKey_big (s : ByteArray) (w : World) : Calls Try.prog 137 #[.string s] w fun e w' => e = .returned (.bool (isKey s.data.toList)) ∧ Drawn0 w w' := by
  obtain ⟨⟨l⟩⟩ := s
  exact ev_calls (rkey_evB l) (fun k h => batonref11_Key.calls k _ _ w h)
theorem refPrefix_big (s : ByteArray) (w : World) : Calls Try.prog 177 #[.string s] w fun e w' => e = .returned (.bool (isPrefix s.data.toList)) ∧ Drawn0 w w' := by
  obtain ⟨⟨l⟩⟩ := s
  exact ev_calls (rprefix_evB l) (fun k h => batonref11_Prefix.calls k _ _ w h)
end Go.Proofs.Ytobanhbjkomieaa.KP
namespace Go.Proofs.Ytobanhbjkomieaa.TA
open Go Go.RowKit Go.Proofs.Ytobanhbjkomieaa.KP Go.Proofs.YtobanhbjkomieaaW.PrintWords Go.Proofs.YtobanhbjkomieaaW.PrintLast Go.Proofs.YtobanhbjkomieaaW.PrintMore
open Go.Proofs.Ytobanhbjkomieaa.RP (below_next0)
set_option linter.unusedSimpArgs false
set_option linter.unusedVariables false
def putR (x : Ent) : Bool → List Ent → List Ent
  | d, [] => if d then [] else [x]
  | d, y :: l => if !d && lt x.key y.key then x :: y :: putR x true l else y :: putR x d l
theorem putR_done {x : Ent} : ∀ l : List Ent, putR x true l = l
  | [] => rfl
  | y :: l => by simp only [putR, Bool.not_true, Bool.false_and, Bool.false_eq_true, if_false, putR_done l]
theorem putR_ins {x : Ent} : ∀ {l : List Ent}, Srt l → getL x.key l = none → putR x false l = insL x l
  | [], _, _ => rfl
  | y :: l, h, hn => by
    have h' := List.pairwise_cons.1 h
    have hy : y.key ≠ x.key := fun e => by unfold getL at hn; simp [List.find?_cons, e] at hn
    have hl : getL x.key l = none := by unfold getL at hn ⊢; simpa [List.find?_cons, hy] using hn
    simp only [putR, Bool.not_false, Bool.true_and, insL]
    cases c : lt x.key y.key
    · have c2 : lt y.key x.key = true := by
        cases d : lt y.key x.key
        · exact absurd (lt_tri d c) hy
        · rfl
      simp only [Bool.false_eq_true, if_false, c2, if_true, putR_ins h'.2 hl]
    · simp only [if_true, putR_done]
theorem ins_del {x : Ent} : ∀ {l : List Ent}, Srt l → insL x (delL x.key l) = insL x l
  | [], _ => rfl
  | y :: l, h => by
    have h' := List.pairwise_cons.1 h
    by_cases e : y.key = x.key
    · have hd : delL x.key (y :: l) = l := by rw [← e]; exact del_first h
      rw [hd]
      have h1 : lt x.key y.key = false := by rw [e, lt_irrefl]
      have h2 : lt y.key x.key = false := by rw [e, lt_irrefl]
      simp only [insL, h1, h2, Bool.false_eq_true, if_false]
      cases l with
      | nil => rfl
      | cons z l =>
        have hz : lt x.key z.key = true := by rw [← e]; exact h'.1 z (List.mem_cons_self ..)
        simp only [insL, hz, if_true]
    · have hd : delL x.key (y :: l) = y :: delL x.key l := by unfold delL; simp [List.filter_cons, e]
      rw [hd]
      simp only [insL]
      by_cases c : lt x.key y.key = true
      · have : delL x.key l = l := del_none fun z hz ez => by have := lt_trans c (h'.1 z hz); rw [ez, lt_irrefl] at this; cases this
        simp only [c, if_true, this]
      · have c2 : lt y.key x.key = true := by
          cases d : lt y.key x.key
          · exact absurd (lt_tri d (Bool.eq_false_iff.2 c)) (fun h => e h)
          · rfl
        simp only [if_neg c, c2, if_true, ins_del h'.2]
theorem getL_take {q : ByteArray} {l : List Ent} {k : Nat} (h : k < l.length) (hn : getL q (l.take k) = none) : getL q l = if l[k].key = q then some l[k] else getL q (l.drop k) := by
  have e : l = l.take k ++ l.drop k := (List.take_append_drop k l).symm
  have e2 : l.drop k = l[k] :: l.drop (k + 1) := List.drop_eq_getElem_cons h
  have e3 : getL q l = getL q (l.drop k) := by
    conv => lhs; rw [e]
    unfold getL at hn ⊢
    rw [List.find?_append, hn, Option.none_or]
  rw [e3]
  by_cases c : l[k].key = q
  · rw [if_pos c, e2]
    exact List.find?_cons_of_pos (by simp [c])
  · rw [if_neg c]
theorem getL_take_next {q : ByteArray} {l : List Ent} {k : Nat} (h : k < l.length) (hn : getL q (l.take k) = none) (c : l[k].key ≠ q) : getL q (l.take (k + 1)) = none := by
  rw [← List.take_append_getElem h]
  unfold getL at hn ⊢
  rw [List.find?_append, hn, Option.none_or]
  simp [List.find?_cons, c]
theorem delL_snoc {q : ByteArray} {l : List Ent} {x : Ent} : delL q (l ++ [x]) = delL q l ++ (if x.key = q then [] else [x]) := by
  unfold delL
  rw [List.filter_append]
  congr 1
  by_cases c : x.key = q <;> simp [List.filter_cons, c]
theorem listL_snoc {q : ByteArray} {l : List Ent} {x : Ent} : listL q (l ++ [x]) = listL q l ++ (if q.data.toList.isPrefixOf x.key.data.toList = true then [x] else []) := by
  unfold listL
  rw [List.filter_append]
  congr 1
  rw [List.filter_cons]
  rfl
theorem listL_le (q : ByteArray) (l : List Ent) : (listL q l).length ≤ l.length := List.length_filter_le _ _
theorem holdsL_snoc {cs : List Cnd} {c : Cnd} {l : List Ent} : holdsL (cs ++ [c]) l = (holdsL cs l && decide ((getD c.key l).mod = c.mod)) := by
  unfold holdsL
  rw [List.all_append]
  simp
abbrev rtC (m : Md) (A : Option Addr) (ca : Nat) (B : Option Addr) (cb : Nat) : Array Value := #[.slice A m.row.length ca, .int .i64 m.rev, .int .i64 m.low, .slice B m.hap.length cb]
structure Rt (W : World) (b : Nat) (m : Md) (A : Option Addr) (ca : Nat) (B : Option Addr) (cb : Nat) : Prop where
  blk : W.heap[b]? = some (.cells (rtC m A ca B cb) 94 (0, 0))
  row : Kd.C kEnt W A m.row.length m.row
  hap : Kd.C kEvt W B m.hap.length m.hap
  cap : m.row.length ≤ ca ∧ m.hap.length ≤ cb
theorem kEnt_any {w : World} {x : Ent} {cs : List Value} (w' : World) (h : kEnt.K w x cs) : kEnt.K w' x cs := by
  obtain ⟨_, _, rfl, rfl, ⟨_, _, rfl, rfl, ⟨_, _, rfl, rfl, rfl⟩⟩⟩ := h
  exact kEnt_mk w' x
theorem C_keepE {w w' : World} {A : Option Addr} {n : Nat} {l : List Ent} (h : Kd.C kEnt w A n l) (hk : ∀ ad, A = some ad → 0 < n → w'.heap[ad.block]? = w.heap[ad.block]?) : Kd.C kEnt w' A n l := by
  obtain ⟨h1, h2, h3⟩ := h
  refine ⟨h1, h2, fun hn => ?_⟩
  obtain ⟨ad, e, hc⟩ := h3 hn
  refine ⟨ad, e, fun j p hp => ?_⟩
  obtain ⟨c, hl, hK, hu⟩ := hc j p hp
  exact ⟨c, hl, kEnt_any w' hK, fun i u hi => (World.cell?_of_block (a := ad.add (j * kEnt.sz + i)) (by rw [addb]; exact hk ad e hn)).trans (hu i u hi)⟩
theorem Rt.below {W W' : World} {b : Nat} {m : Md} {A B : Option Addr} {ca cb : Nat} (h : Rt W b m A ca B cb) (hb : Below W.heap.size W W') : Rt W' b m A ca B cb :=
  ⟨(hb.block _ (blk_lt h.blk)).trans h.blk, Kd.C_below h.row hb, Kd.C_below h.hap hb, h.cap⟩
theorem ent_cell {W : World} {A : Option Addr} {l : List Ent} (h : Kd.C kEnt W A l.length l) (a : Addr) (ha : A = some a) (hn : 0 < l.length) : ∃ j s, W.cell? ⟨a.block, j, none⟩ = some (.string s) := by
  obtain ⟨ad, e, _, hc, _⟩ := at_Ent h hn
  obtain rfl : a = ad := Option.some.inj (ha.symm.trans e)
  rw [addb] at hc
  exact ⟨_, _, hc⟩
theorem ent_lt {W : World} {A : Option Addr} {l : List Ent} (h : Kd.C kEnt W A l.length l) (a : Addr) (ha : A = some a) (hn : 0 < l.length) : a.block < W.heap.size := by
  obtain ⟨j, b, hc⟩ := ent_cell h a ha hn
  exact World.block_lt_of_cell? _ ⟨a.block, j, none⟩ hc
theorem opn_cell {W : World} {A : Option Addr} {l : List Opn} (h : Kd.C kOpn W A l.length l) (a : Addr) (ha : A = some a) (hn : 0 < l.length) : ∃ j s, W.cell? ⟨a.block, j, none⟩ = some (.string s) := by
  obtain ⟨ad, e, _, hc, _⟩ := at_Opn h hn
  obtain rfl : a = ad := Option.some.inj (ha.symm.trans e)
  rw [addb] at hc
  exact ⟨_, _, hc⟩
theorem opn_lt {W : World} {A : Option Addr} {l : List Opn} (h : Kd.C kOpn W A l.length l) (a : Addr) (ha : A = some a) (hn : 0 < l.length) : a.block < W.heap.size := by
  obtain ⟨j, b, hc⟩ := opn_cell h a ha hn
  exact World.block_lt_of_cell? _ ⟨a.block, j, none⟩ hc
theorem cell_alloc2 (w : World) (o : Obj) {a : Addr} (h : a.block < w.heap.size) : (w.alloc o).cell? a = w.cell? a := World.cell?_of_block (Below.heap_alloc w o _ h)
theorem Rt.cellOf {W : World} {b : Nat} {m : Md} {A B : Option Addr} {ca cb : Nat} (h : Rt W b m A ca B cb) {j : Nat} {v : Value} (hc : W.cell? ⟨b, j, none⟩ = some v) : (∃ x y z, v = .slice x y z) ∨ ∃ n, v = .int .i64 n := by
  rw [blk_cell h.blk j] at hc
  match j, hc with
  | 0, hc => cases hc; exact .inl ⟨_, _, _, rfl⟩
  | 1, hc => cases hc; exact .inr ⟨_, rfl⟩
  | 2, hc => cases hc; exact .inr ⟨_, rfl⟩
  | 3, hc => cases hc; exact .inl ⟨_, _, _, rfl⟩
  | j + 4, hc => simp at hc
theorem Rt.farS {W : World} {b : Nat} {m : Md} {A B : Option Addr} {ca cb : Nat} (h : Rt W b m A ca B cb) {k : Nat} (hk : ∃ j s, W.cell? ⟨k, j, none⟩ = some (.string s)) : k ≠ b := by
  rintro rfl
  obtain ⟨j, s, hc⟩ := hk
  rcases h.cellOf hc with ⟨_, _, _, e⟩ | ⟨_, e⟩ <;> cases e
theorem Rt.farB {W : World} {b : Nat} {m : Md} {A B : Option Addr} {ca cb : Nat} (h : Rt W b m A ca B cb) {k : Nat} (hk : ∃ j s, W.cell? ⟨k, j, none⟩ = some (.bool s)) : k ≠ b := by
  rintro rfl
  obtain ⟨j, s, hc⟩ := hk
  rcases h.cellOf hc with ⟨_, _, _, e⟩ | ⟨_, e⟩ <;> cases e
section
variable {W W' : World} {b : Nat} {m : Md} {A B : Option Addr} {ca cb : Nat}
theorem rt_ent (h : Rt W b m A ca B cb) (hK : Kb b W W') {C : Option Addr} {l : List Ent} (hC : Kd.C kEnt W C l.length l) : Kd.C kEnt W' C l.length l :=
  C_keepE hC (fun a ha hn => hK.block _ (ent_lt hC a ha hn) (h.farS (ent_cell hC a ha hn)))
theorem rt_evt (h : Rt W b m A ca B cb) (hK : Kb b W W') {C : Option Addr} {l : List Evt} (hC : Kd.C kEvt W C l.length l) : Kd.C kEvt W' C l.length l :=
  C_keep hC (fun a ha hn => hK.block _ (hap_lt hC a ha hn) (h.farB (hap_cell hC a ha hn)))
theorem rt_opn (h : Rt W b m A ca B cb) (hK : Kb b W W') {C : Option Addr} {l : List Opn} (hC : Kd.C kOpn W C l.length l) : Kd.C kOpn W' C l.length l :=
  C_keepO hC (fun a ha hn => hK.block _ (opn_lt hC a ha hn) (h.farS (opn_cell hC a ha hn)))
theorem rt_at (h : Rt W b m A ca B cb) (hK : Kb b W W') {tb : Nat} {t : AT} {m2 : Md} {ad : Option Addr} {c : Nat} (hA : At W tb t m2 ad c) : At W' tb t m2 ad c := by
  refine hA.keepT (fun k cs T hT hk => hK.block k (blk_lt hk) ?_) (fun a ha hn => hK.block a.block (hap_lt hA.hap a ha hn) (h.farB (hap_cell hA.hap a ha hn)))
  refine far_type h.blk hk ?_
  rcases hT with rfl | rfl <;> decide
theorem Rt.kb (h : Rt W b m A ca B cb) {tb : Nat} {t : AT} {m2 : Md} {ad : Option Addr} {c : Nat} (hg : W.heap[tb]? = some (.cells (trC t m2 ad c) 166 (0, 0))) (hK : Kb tb W W') : Rt W' b m A ca B cb := by
  refine ⟨hK.blk h.blk (far_type hg h.blk (by decide)), C_keepE h.row (fun a ha hn => hK.block _ (ent_lt h.row a ha hn) ?_), C_keep h.hap (fun a ha hn => hK.block _ (hap_lt h.hap a ha hn) (hap_far h.hap hg a ha hn)), h.cap⟩
  obtain ⟨j, s, hc⟩ := ent_cell h.row a ha hn
  intro e
  rw [e, blk_cell hg j] at hc
  match j, hc with
  | 0, hc => cases hc
  | 1, hc => cases hc
  | 2, hc => cases hc
  | 3, hc => cases hc
  | 4, hc => cases hc
  | j + 5, hc => simp at hc
theorem Rt.set (h : Rt W b m A ca B cb) (j : Nat) (u : Value) : Kb b W (W.setCell ⟨b, j, none⟩ u) := (Kb.refl b W).set j u
end
end Go.Proofs.Ytobanhbjkomieaa.TA
