import Derived.Test.YtobanhbjkomieaaPAllx
import Derived.Deep.Strs
import Derived.Lib.SmallJoins
namespace Go.Proofs.Ytobanhbjkomieaa.OP
open Go.ChangeShapes Go.WideShapes Go.Deep Go.Proofs.YtobanhbjkomieaaW.PrintWords
set_option linter.unusedSimpArgs false
set_option linter.unusedVariables false
/-! ### what comes in, opened kind by kind -/
/-- What reads as a value of type t is of kind d, and ok. -/
structure Opens {α : Type} (P : Program) (w : World) (t : TypeId) (d : Kd α) (ok : α → Prop) : Prop where
  size : P.cellsOf t = d.sz
  gives : ∀ (H : Type) (enc : TypeId × Value → H) (base : Nat) (spare : Nat → Bool) (held : Bool) (fuel : Nat) (cs : List Value) (x : DataW H × List MemPlace), DataW.trod enc P w base spare held fuel t cs = some x → ∃ a, d.K w a cs ∧ ok a
section
variable {P : Program} {w : World}
theorem opens_int {t : TypeId} {k : IntKind} (h : P.underlying t = some (.int k)) (hc : P.cellsOf t = 1) : Opens P w t (Kd.int k) (fun n => (Lit.int k n).wf = true) where
  size := hc
  gives _ _ _ _ _ _ _ _ hx := by
    obtain ⟨n, rfl, _, hw⟩ := DataW.trod_int h hx
    exact ⟨n, rfl, hw⟩
theorem opens_bool {t : TypeId} (h : P.underlying t = some .bool) (hc : P.cellsOf t = 1) : Opens P w t Kd.bool (fun _ => True) where
  size := hc
  gives _ _ _ _ _ _ _ _ hx := by
    obtain ⟨n, rfl, _⟩ := DataW.trod_bool h hx
    exact ⟨n, rfl, trivial⟩
theorem opens_string {t : TypeId} (h : P.underlying t = some .string) (hc : P.cellsOf t = 1) : Opens P w t Kd.string (fun s => s.size ≤ maxLen) where
  size := hc
  gives _ _ _ _ _ _ _ _ hx := by
    obtain ⟨n, rfl, _, hw⟩ := DataW.trod_string h hx
    exact ⟨n, rfl, hw⟩
theorem opens_slice {α : Type} {t e : TypeId} {d : Kd α} {ok : α → Prop} (he : Opens P w e d ok) (h : P.underlying t = some (.slice e)) (hc : P.cellsOf t = 1) :
    Opens P w t (Kd.slice e d) (fun l => (∀ x ∈ l, ok x) ∧ l.length ≤ maxLen) where
  size := hc
  gives H enc base spare held fuel cs x hx := by
    rcases open_slice h hx with ⟨rfl, _⟩ | ⟨a, len, cap, m, n, D, Pl, rfl, _, hl, hm, hmm, _, hel⟩
    · exact ⟨[], ⟨none, 0, rfl, Nat.le_refl _, rfl, by simp, fun h => absurd h (by simp)⟩, by simp, by simp⟩
    · have hlm : len ≤ m := by rw [hmm]; split <;> omega
      have each : ∀ i : Fin len, ∃ y : α, ok y ∧ ∃ c, c.length = d.sz ∧ d.K w y c ∧ ∀ j u, c[j]? = some u → w.cell? (a.add (i.val * d.sz + j)) = some u := fun i => by
        obtain ⟨c, hc1, hc2⟩ := hel i.val (by omega)
        obtain ⟨y, hy, hok⟩ := he.gives _ _ _ _ _ _ _ _ hc2
        obtain ⟨_, hcl, hcc⟩ := World.cells?_some hc1
        rw [he.size] at hcl hcc
        refine ⟨y, hok, c, hcl, hy, fun j u hj => ?_⟩
        have hjl : j < d.sz := by have := (List.getElem?_eq_some_iff.1 hj).1; omega
        rw [← Deep.add_add, hcc j hjl, hj]
      refine ⟨List.ofFn fun i => Classical.choose (each i), ⟨some a, cap, ?_, ?_, ?_, ?_, fun hp => ⟨a, rfl, fun j p hj => ?_⟩⟩, fun x hx => ?_, ?_⟩
      · rw [List.length_ofFn]
      · rw [List.length_ofFn]; exact hl
      · rfl
      · rw [List.length_ofFn]; unfold maxLen at hm; omega
      · have hjl : j < len := by have := (List.getElem?_eq_some_iff.1 hj).1; rwa [List.length_ofFn] at this
        rw [List.getElem?_ofFn, dif_pos hjl] at hj
        injection hj with hj
        subst hj
        obtain ⟨_, c, h1, h2, h3⟩ := Classical.choose_spec (each ⟨j, hjl⟩)
        exact ⟨c, h1, h2, h3⟩
      · obtain ⟨i, rfl⟩ := List.mem_ofFn.1 hx
        exact (Classical.choose_spec (each i)).1
      · rw [List.length_ofFn]; omega
/-- The fields from a cell on. -/
def Seg {α : Type} (P : Program) (w : World) (fs : List Field) (o : Nat) (d : Kd α) (ok : α → Prop) : Prop :=
  ∀ (H : Type) (enc : TypeId × Value → H) (base : Nat) (spare : Nat → Bool) (held : Bool) (fuel : Nat) (cs : List Value), cs.length = o + d.sz →
    (∀ f ∈ fs, ∃ y, DataW.trod enc P w base spare held fuel f.type ((cs.drop f.offset).take (P.cellsOf f.type)) = some y) → ∃ a, d.K w a (cs.drop o) ∧ ok a
theorem seg_one {α : Type} {f : Field} {d : Kd α} {ok : α → Prop} (h : Opens P w f.type d ok) {o : Nat} (ho : f.offset = o) : Seg P w [f] o d ok := by
  intro H enc base spare held fuel cs hl hf
  obtain ⟨y, hy⟩ := hf f (by simp)
  rw [ho, h.size, List.take_of_length_le (by rw [List.length_drop]; omega)] at hy
  exact h.gives _ _ _ _ _ _ _ _ hy
theorem seg_cons {α β : Type} {f : Field} {fs : List Field} {d : Kd α} {d' : Kd β} {ok : α → Prop} {ok' : β → Prop} (h : Opens P w f.type d ok) {o : Nat} (ho : f.offset = o) (hs : Seg P w fs (o + d.sz) d' ok') :
    Seg P w (f :: fs) o (Kd.pair d d') (fun x => ok x.1 ∧ ok' x.2) := by
  intro H enc base spare held fuel cs hl hf
  obtain ⟨y, hy⟩ := hf f (by simp)
  rw [ho, h.size] at hy
  obtain ⟨a, ha, hok⟩ := h.gives _ _ _ _ _ _ _ _ hy
  have hl' : cs.length = o + (d.sz + d'.sz) := hl
  obtain ⟨b, hb, hok'⟩ := hs H enc base spare held fuel cs (by omega) (fun g hg => hf g (by simp [hg]))
  refine ⟨(a, b), ⟨_, _, ?_, ha, hb⟩, hok, hok'⟩
  rw [← List.drop_drop, List.take_append_drop]
theorem opens_struct {α : Type} {t : TypeId} {fs : Array Field} {d : Kd α} {ok : α → Prop} (h : P.underlying t = some (.struct fs)) (hc : P.cellsOf t = d.sz) (hs : Seg P w fs.toList 0 d ok) : Opens P w t d ok where
  size := hc
  gives H enc base spare held fuel cs x hx := by
    obtain ⟨xs, n, _, _, hl, hlen, hf⟩ := DataW.trod_struct h hx
    have := hs H enc base spare held n cs (by omega) (fun f hfm => by
      obtain ⟨i, hi, rfl⟩ := List.getElem_of_mem hfm
      have hi' : i < fs.size := by simpa using hi
      refine ⟨xs[i], ?_⟩
      rw [hf i _ (by simp [hi']), List.getElem?_eq_getElem (by omega)])
    simpa using this
theorem opens_iso {α β : Type} {t : TypeId} {d : Kd α} {ok : α → Prop} (h : Opens P w t d ok) (f : β → α) (g : α → β) (hfg : ∀ a, f (g a) = a) : Opens P w t (Kd.iso d f) (fun b => ok (f b)) where
  size := h.size
  gives H enc base spare held fuel cs x hx := by
    obtain ⟨a, ha, hok⟩ := h.gives _ _ _ _ _ _ _ _ hx
    exact ⟨g a, by show d.K w (f (g a)) cs; rwa [hfg], by rwa [hfg]⟩
theorem opens_ok {α : Type} {t : TypeId} {d : Kd α} {ok ok' : α → Prop} (h : Opens P w t d ok) (hk : ∀ a, ok a → ok' a) : Opens P w t d ok' where
  size := h.size
  gives H enc base spare held fuel cs x hx := by
    obtain ⟨a, ha, hok⟩ := h.gives _ _ _ _ _ _ _ _ hx
    exact ⟨a, ha, hk a hok⟩
/-- A parameter that is a struct. -/
theorem arg_struct {α H : Type} {enc : TypeId × Value → H} {base base' : Nat} {spare : Nat → Bool} {held : Bool} {r : Reach} {t : TypeId} {fs : Array Field} {d : Kd α} {ok : α → Prop} {v : Value} {x : DataW H} {p : List MemPlace} (ho : Opens P w t d ok)
    (ht : P.underlying t = some (.struct fs)) (hv : Value.okWide P w r base' t v) (h : DataW.Trod enc P w base spare held t v x p) : ∃ cs a, v = .agg cs ∧ d.K w a cs.toList ∧ ok a := by
  unfold Value.okWide at hv
  rw [ht] at hv
  obtain ⟨cs, rfl, _, _⟩ := hv
  obtain ⟨n, hn⟩ := h
  obtain ⟨a, ha, hok⟩ := ho.gives _ _ _ _ _ _ _ _ hn
  exact ⟨cs, a, rfl, ha, hok⟩
/-- A parameter that is a slice. -/
theorem arg_slice {α H : Type} {enc : TypeId × Value → H} {base base' : Nat} {spare : Nat → Bool} {held : Bool} {r : Reach} {t e : TypeId} {d : Kd α} {ok : List α → Prop} {v : Value} {x : DataW H} {p : List MemPlace} (ho : Opens P w t (Kd.slice e d) ok)
    (ht : P.underlying t = some (.slice e)) (hv : Value.okWide P w r base' t v) (h : DataW.Trod enc P w base spare held t v x p) : ∃ A c l, v = .slice A l.length c ∧ l.length ≤ c ∧ d.C w A l.length l ∧ ok l := by
  obtain ⟨A, n, c, rfl⟩ := okWide_slice ht hv
  obtain ⟨k, hk⟩ := h
  obtain ⟨l, ⟨A', c', he, hl, hC⟩, hok⟩ := ho.gives _ _ _ _ _ _ _ _ hk
  have he' : Value.slice A n c = Value.slice A' l.length c' := by simpa [Value.cells] using he
  injection he' with h1 h2 h3
  subst h1 h2 h3
  exact ⟨A, c, l, rfl, hl, hC, hok⟩
end
end Go.Proofs.Ytobanhbjkomieaa.OP
