import Derived.Test.YtobanhbjkomieaaTMSb
import Derived.ArgAppend
import Derived.Deep.Upon
namespace Go.Proofs.Ytobanhbjkomieaa.TA
open Go Go.RowKit Go.Proofs.YtobanhbjkomieaaW.PrintWords Go.Proofs.YtobanhbjkomieaaW.PrintLast Go.Proofs.YtobanhbjkomieaaW.PrintMore
set_option linter.unusedSimpArgs false
set_option linter.unusedVariables false
def evtCells (x : Evt) : List Value := [.int .i64 x.rev, .bool x.del, .string x.key, .string x.val]
theorem evtCells_len : ∀ l : List Evt, (l.flatMap evtCells).length = l.length * 4
  | [] => rfl
  | x :: l => by
    rw [List.flatMap_cons, List.length_append, evtCells_len l, List.length_cons]
    show 4 + _ = _
    omega
theorem evtCells_one {l : List Evt} : ∀ u ∈ l.flatMap evtCells, u.oneCell' = true := by
  intro u hu
  obtain ⟨x, _, hx⟩ := List.mem_flatMap.1 hu
  simp only [evtCells, List.mem_cons, List.not_mem_nil, or_false] at hx
  rcases hx with rfl | rfl | rfl | rfl <;> rfl
theorem reps_evt {R : Evt → List Value → Prop} (hR : ∀ x, R x (evtCells x)) : ∀ l : List Evt, Reps R 4 l (l.flatMap evtCells)
  | [] => Reps.none _ _
  | x :: l => by
    refine ⟨by rw [evtCells_len], fun j p hp => ?_⟩
    rw [List.flatMap_cons]
    match j, hp with
    | 0, hp =>
      obtain rfl : x = p := Option.some.inj hp
      exact hR x
    | j + 1, hp =>
      have := (reps_evt hR l).2 j p hp
      rw [show (j + 1) * 4 = 4 + j * 4 by omega, ← List.drop_drop]
      exact this
theorem RE_flat {e : Nat} {w : World} {base : Nat} {ok : Nat → Prop} {v : Value} {l : List Evt} (ho : w.ownsRow base e 4 v l.length (l.flatMap evtCells)) (hok : ∀ k, v.ownBlock = some k → ok k) : kEvt.R e w base ok v l :=
  ⟨hok, _, ho, reps_evt (fun x => kEvt_mkM _ _ _ _) l⟩
theorem flat_at {f : Nat → Option Value} : ∀ (l : List Evt) (b : Nat), (∀ k p, l[k]? = some p → ∀ i u, (evtCells p)[i]? = some u → f (b + (k * 4 + i)) = some u) → ∀ j u, (l.flatMap evtCells)[j]? = some u → f (b + j) = some u
  | [], _, _, j, u, h => by simp at h
  | x :: l, b, h, j, u, hj => by
    rw [List.flatMap_cons] at hj
    rcases Nat.lt_or_ge j 4 with h4 | h4
    · rw [List.getElem?_append_left (by exact h4)] at hj
      have := h 0 x rfl j u hj
      simpa using this
    · rw [List.getElem?_append_right (by exact h4)] at hj
      have := flat_at l (b + 4) (fun k p hp i u hu => by
        have := h (k + 1) p hp i u hu
        rw [show b + 4 + (k * 4 + i) = b + ((k + 1) * 4 + i) by omega]
        exact this) (j - 4) u hj
      rwa [show b + 4 + (j - 4) = b + j by omega] at this
theorem C_flat {w : World} {A : Option Addr} {l : List Evt} (h : Kd.C kEvt w A l.length l) (hn : 0 < l.length) : ∃ ad, A = some ad ∧ ∀ j u, (l.flatMap evtCells)[j]? = some u → w.cell? (ad.add j) = some u := by
  obtain ⟨_, _, h3⟩ := h
  obtain ⟨ad, e, hc⟩ := h3 hn
  refine ⟨ad, e, fun j u hj => ?_⟩
  have := flat_at (f := fun i => w.cell? (ad.add i)) l 0 (fun k p hp i u hu => by
    obtain ⟨c, hl, hK, hu'⟩ := hc k p hp
    have hce : c = evtCells p := by
      obtain ⟨_, _, rfl, rfl, ⟨_, _, rfl, rfl, ⟨_, _, rfl, rfl, rfl⟩⟩⟩ := hK
      rfl
    subst hce
    rw [Nat.zero_add]
    exact hu' i u hu) j u hj
  simpa using this
theorem infoEvt : (Try.prog.info? 60).map (fun i => (i.zero, i.size, i.bytes)) = some (some (.agg #[.int .i64 0, .bool false, .string ⟨#[]⟩, .string ⟨#[]⟩]), 4, 48) := by kernel_rfl
theorem append_evs {w : World} {A : Option Addr} {l : List Evt} (hA : Kd.C kEvt w A l.length l) {B : Option Addr} {cb : Nat} {l2 : List Evt} (hB : Kd.C kEvt w B l2.length l2) (h0 : 0 < l2.length) (hl : l.length + l2.length ≤ 1000000000) :
    ∃ v' w', (Builtin.append_ #[54, 54] 54 #[.slice A l.length l.length, .slice B l2.length cb]).run Try.prog w = .ok v' w' ∧ kEvt.R 60 w' w.heap.size (fun _ => True) v' (l ++ l2) ∧ w.grownBy w' none := by
  obtain ⟨i0, hi, hz⟩ := Option.map_eq_some_iff.1 infoEvt
  simp only [Prod.mk.injEq] at hz
  obtain ⟨hz0, hz1, hz2⟩ := hz
  obtain ⟨b, rfl, hnews⟩ := C_flat hB h0
  have hR : ∀ {v' : Value} {w' : World}, w'.ownsRow w.heap.size 60 4 v' (l.length + l2.length) (l.flatMap evtCells ++ l2.flatMap evtCells) → kEvt.R 60 w' w.heap.size (fun _ => True) v' (l ++ l2) := fun h => by
    refine RE_flat ?_ (fun _ _ => trivial)
    rw [List.length_append, List.flatMap_append]
    exact h
  cases A with
  | none =>
    have hl0 : l = [] := by
      cases l with
      | nil => rfl
      | cons x l =>
        obtain ⟨_, e, _⟩ := C_flat hA (by simp)
        cases e
    subst hl0
    obtain ⟨v', w', h1, h2, h3, _⟩ := run_append_own (P := Try.prog) w w.heap.size 54 54 60 i0 _ 4 48 Try.underlying54 hi hz0 hz1 hz2 rfl (by decide) (.slice none 0 0) 0 [] (World.ownsRow_nil _ _ _ _) b l2.length cb (l2.flatMap evtCells) (evtCells_len l2) hnews evtCells_one (by simp only [maxLen, List.length_nil] at *; omega) (by simp only [List.length_nil] at *; omega) (Nat.le_refl _)
    exact ⟨v', w', h1, hR h2, h3⟩
  | some a =>
    have holds : ∀ j u, (l.flatMap evtCells)[j]? = some u → w.cell? (a.add j) = some u := by
      rcases Nat.eq_zero_or_pos l.length with h | h
      · obtain rfl := List.length_eq_zero_iff.1 h
        intro j u hj
        simp at hj
      · obtain ⟨a', e, h'⟩ := C_flat hA h
        injection e with e
        subst e
        exact h'
    obtain ⟨v', w', h1, h2, h3⟩ := run_append_arg_grows (P := Try.prog) w 54 54 60 i0 _ 4 48 Try.underlying54 hi hz0 hz1 hz2 rfl (by decide) a l.length l.length (l.flatMap evtCells) (evtCells_len l) holds b l2.length cb (l2.flatMap evtCells) (evtCells_len l2) hnews (by omega) (by simp only [maxLen]; omega) (by omega)
    exact ⟨v', w', h1, hR h2, h3⟩
theorem append_none {w : World} (A : Option Addr) (n : Nat) {B : Option Addr} {cb : Nat} (hB : Kd.C kEvt w B ([] : List Evt).length []) :
    (Builtin.append_ #[54, 54] 54 #[.slice A n n, .slice B 0 cb]).run Try.prog w = .ok (.slice A n n) w := by
  obtain ⟨i0, hi, hz⟩ := Option.map_eq_some_iff.1 infoEvt
  cases B with
  | none => exact run_append_nothing w _ _ _ 60 i0 Try.underlying54 hi A n n (Nat.le_refl _) _ (Src.ofNil w Try.underlying54 cb)
  | some b => exact run_append_nothing w _ _ _ 60 i0 Try.underlying54 hi A n n (Nat.le_refl _) _ (Src.ofSlice w Try.underlying54 b 0 cb [] (by simp) (by simp) (by simp))
theorem step_append {P : Program} {ops : Array Oper} {o : Oper} {a : Act} {Q : Exit → Act → World → Prop} {K : Act → World → Prop} {W w' : World} {v' : Value} (hw : Region.wanted o (yielded ops a.tmps) = true) (s x : Operand) (t : TypeId)
    (ho : o.op = .call { callee := .builtin .append, args := #[s, x], argTypes := #[t, t] }) {v1 v2 : Value} (hs : a.eval s = v1) (hx : a.eval x = v2) (hr : (Builtin.append_ #[t, t] o.type #[v1, v2]).run P W = .ok v' w')
    (h : K (a.put o.dst v') w') : if Region.wanted o (yielded ops a.tmps) = true then Oper.wp P o a W K Q else K (a.put o.dst undef) W := by
  rw [if_pos hw]
  unfold Oper.wp execOp
  simp only [ho, resolve, invoke, builtin, Sem.run_bind, Sem.run_pure, Result.andThen_ok, List.map_toArray, List.map_cons, List.map_nil, hs, hx, hr]
  exact h
theorem Kb.grown {g : Nat} {W0 W w1 : World} {row : Option Nat} (h : Kb g W0 W) (hg : W.grownBy w1 row) (hr : ∀ k, row = some k → W0.heap.size ≤ k) : Kb g W0 w1 :=
  ⟨hg.os.trans h.os, hg.tape.trans h.tape, hg.output.trans h.output, Nat.le_trans h.size hg.size, fun i hi hn => (hg.block i (Nat.lt_of_lt_of_le hi h.size) (fun e => by have := hr i e.symm; omega)).trans (h.block i hi hn)⟩
theorem At.grown {W w1 : World} {tb : Nat} {t : AT} {m : Md} {ad : Option Addr} {c : Nat} (h : At W tb t m ad c) {row : Option Nat} (hg : W.grownBy w1 row)
    (hty : ∀ k, row = some k → ∃ cells, W.heap[k]? = some (.cells cells 60 (0, 0))) (hfar : ∀ a, ad = some a → 0 < m.hap.length → some a.block ≠ row) : At w1 tb t m ad c := by
  have far : ∀ (k : Nat) (cs : Array Value) (T : TypeId), T ≠ 60 → W.heap[k]? = some (.cells cs T (0, 0)) → some k ≠ row := fun k cs T hT hk e => by
    obtain ⟨ds, hd⟩ := hty k e.symm
    rw [hk] at hd
    injection hd with hd
    injection hd with _ hd
    exact hT hd
  exact ⟨(hg.block _ (blk_lt h.blk) (far _ _ _ (by decide) h.blk)).trans h.blk, AT.In.keep (fun k cs hk => hg.block k (blk_lt hk) (far _ _ _ (by decide) hk)) h.ins, h.tall, h.row,
    C_keep h.hap (fun a ha hn => hg.block _ (hap_lt h.hap a ha hn) (hfar a ha hn)), h.cap, h.ok⟩
theorem opn_far {W : World} {A : Option Addr} {l : List Opn} (h : Kd.C kOpn W A l.length l) {g : Nat} {t : AT} {m : Md} {ad : Option Addr} {c : Nat} {T : TypeId} (hg : W.heap[g]? = some (.cells (trC t m ad c) T (0, 0))) (a : Addr) (ha : A = some a) (hn : 0 < l.length) : a.block ≠ g ∧ a.block < W.heap.size := by
  obtain ⟨ad', e, _, hc, _⟩ := at_Opn h hn
  obtain rfl : a = ad' := Option.some.inj (ha.symm.trans e)
  rw [addb] at hc
  generalize (a.add (0 * 3)).off + 1 = j at hc
  refine ⟨?_, World.block_lt_of_cell? _ ⟨a.block, j, none⟩ hc⟩
  rintro rfl
  rw [blk_cell hg j] at hc
  match j, hc with
  | 0, hc => cases hc
  | 1, hc => cases hc
  | 2, hc => cases hc
  | 3, hc => cases hc
  | 4, hc => cases hc
  | j + 5, hc => simp at hc
theorem kOpn_any {w : World} {x : Opn} {cs : List Value} (w' : World) (h : kOpn.K w x cs) : kOpn.K w' x cs := by
  obtain ⟨_, _, rfl, rfl, ⟨_, _, rfl, rfl, rfl⟩⟩ := h
  exact kOpn_mk w' x
theorem C_keepO {w w' : World} {A : Option Addr} {n : Nat} {l : List Opn} (h : Kd.C kOpn w A n l) (hk : ∀ ad, A = some ad → 0 < n → w'.heap[ad.block]? = w.heap[ad.block]?) : Kd.C kOpn w' A n l := by
  obtain ⟨h1, h2, h3⟩ := h
  refine ⟨h1, h2, fun hn => ?_⟩
  obtain ⟨ad, e, hc⟩ := h3 hn
  refine ⟨ad, e, fun j p hp => ?_⟩
  obtain ⟨c, hl, hK, hu⟩ := hc j p hp
  exact ⟨c, hl, kOpn_any w' hK, fun i u hi => (World.cell?_of_block (a := ad.add (j * kOpn.sz + i)) (by rw [addb]; exact hk ad e hn)).trans (hu i u hi)⟩
theorem opn_kb {W W' : World} {A : Option Addr} {l : List Opn} (h : Kd.C kOpn W A l.length l) {g : Nat} {t : AT} {m : Md} {ad : Option Addr} {c : Nat} {T : TypeId} (hg : W.heap[g]? = some (.cells (trC t m ad c) T (0, 0))) (hb : Kb g W W') : Kd.C kOpn W' A l.length l :=
  C_keepO h fun a ha hn => hb.block _ (opn_far h hg a ha hn).2 (opn_far h hg a ha hn).1
theorem ok_up {m : Md} (h : Ok m) (hr : m.rev ≠ 1099511627776) : Ok ⟨m.row, m.rev + 1, m.low, m.hap⟩ := by
  have h0 := h.lo
  exact ⟨h.srt, by simp only; omega, fun x hx => by have := h.made x hx; simp only; omega, fun x hx => by have := h.hap x hx; simp only; omega, h.ris⟩
end Go.Proofs.Ytobanhbjkomieaa.TA
