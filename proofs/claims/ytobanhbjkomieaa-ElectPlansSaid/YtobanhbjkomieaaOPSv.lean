import Derived.Test.YtobanhbjkomieaaPAllx0Sv
import Derived.Test.YtobanhbjkomieaaPAllx1Sv
import Derived.Test.YtobanhbjkomieaaPAllx2Sv
import Derived.Test.YtobanhbjkomieaaPAllx3Sv
import Derived.Test.YtobanhbjkomieaaPAllx4Sv
import Derived.Deep.Strs
import Derived.Lib.SmallJoins
namespace Go.Proofs.Ytobanhbjkomieaa.OP
open Go.ChangeShapes Go.WideShapes Go.Deep Go.Proofs.YtobanhbjkomieaaW.PrintWords
set_option linter.unusedSimpArgs false
set_option linter.unusedVariables false
structure Opens {α : Type} (P : Program) (w : World) (t : TypeId) (d : Kd α) (ok : α → Prop) : Prop where
  size : P.cellsOf t = d.sz
  gives : ∀ (H : Type) (enc : TypeId × Value → H) (base : Nat) (spare : Nat → Bool) (held : Bool) (fuel : Nat) (cs : List Value) (x : DataW H × List MemPlace), DataW.trod enc P w base spare held fuel t cs = some x → ∃ a, d.K w a cs ∧ ok a
section
variable {P : Program} {w : World}
theorem opens_int {t : TypeId} {k : IntKind} (h : P.underlying t = some (.int k)) (hc : P.cellsOf t = 1) : Opens P w t (Kd.int k) (fun n => (Lit.int k n).wf = true) where
  size := hc
  gives _ _ _ _ _ _ _ _ hx := by
    obtain ⟨n, rfl, _, hw⟩ := DataW.trod_int h hx
    exact ⟨n, rfl, hw⟩
theorem opens_bool {t : TypeId} (h : P.underlying t = some .bool) (hc : P.cellsOf t = 1) : Opens P w t Kd.bool (fun _ => True) where
  size := hc
  gives _ _ _ _ _ _ _ _ hx := by
    obtain ⟨n, rfl, _⟩ := DataW.trod_bool h hx
    exact ⟨n, rfl, trivial⟩
theorem opens_string {t : TypeId} (h : P.underlying t = some .string) (hc : P.cellsOf t = 1) : Opens P w t Kd.string (fun s => s.size ≤ maxLen) where
  size := hc
  gives _ _ _ _ _ _ _ _ hx := by
    obtain ⟨n, rfl, _, hw⟩ := DataW.trod_string h hx
    exact ⟨n, rfl, hw⟩
def Seg {α : Type} (P : Program) (w : World) (fs : List Field) (o : Nat) (d : Kd α) (ok : α → Prop) : Prop :=
  ∀ (H : Type) (enc : TypeId × Value → H) (base : Nat) (spare : Nat → Bool) (held : Bool) (fuel : Nat) (cs : List Value), cs.length = o + d.sz →
    (∀ f ∈ fs, ∃ y, DataW.trod enc P w base spare held fuel f.type ((cs.drop f.offset).take (P.cellsOf f.type)) = some y) → ∃ a, d.K w a (cs.drop o) ∧ ok a
theorem seg_one {α : Type} {f : Field} {d : Kd α} {ok : α → Prop} (h : Opens P w f.type d ok) {o : Nat} (ho : f.offset = o) : Seg P w [f] o d ok := by
  intro H enc base spare held fuel cs hl hf
  obtain ⟨y, hy⟩ := hf f (by simp)
  rw [ho, h.size, List.take_of_length_le (by rw [List.length_drop]; omega)] at hy
  exact h.gives _ _ _ _ _ _ _ _ hy
theorem seg_cons {α β : Type} {f : Field} {fs : List Field} {d : Kd α} {d' : Kd β} {ok : α → Prop} {ok' : β → Prop} (h : Opens P w f.type d ok) {o : Nat} (ho : f.offset = o) (hs : Seg P w fs (o + d.sz) d' ok') :
    Seg P w (f :: fs) o (Kd.pair d d') (fun x => ok x.1 ∧ ok' x.2) := by
  intro H enc base spare held fuel cs hl hf
  obtain ⟨y, hy⟩ := hf f (by simp)
  rw [ho, h.size] at hy
  obtain ⟨a, ha, hok⟩ := h.gives _ _ _ _ _ _ _ _ hy
  have hl' : cs.length = o + (d.sz + d'.sz) := hl
  obtain ⟨b, hb, hok'⟩ := hs H enc base spare held fuel cs (by omega) (fun g hg => hf g (by simp [hg]))
  refine ⟨(a, b), ⟨_, _, ?_, ha, hb⟩, hok, hok'⟩
  rw [← List.drop_drop, List.take_append_drop]
theorem opens_struct {α : Type} {t : TypeId} {fs : Array Field} {d : Kd α} {ok : α → Prop} (h : P.underlying t = some (.struct fs)) (hc : P.cellsOf t = d.sz) (hs : Seg P w fs.toList 0 d ok) : Opens P w t d ok where
  size := hc
  gives H enc base spare held fuel cs x hx := by
    obtain ⟨xs, n, _, _, hl, hlen, hf⟩ := DataW.trod_struct h hx
    have := hs H enc base spare held n cs (by omega) (fun f hfm => by
      obtain ⟨i, hi, rfl⟩ := List.getElem_of_mem hfm
      have hi' : i < fs.size := by simpa using hi
      refine ⟨xs[i], ?_⟩
      rw [hf i _ (by simp [hi']), List.getElem?_eq_getElem (by omega)])
    simpa using this
theorem arg_struct {α H : Type} {enc : TypeId × Value → H} {base base' : Nat} {spare : Nat → Bool} {held : Bool} {r : Reach} {t : TypeId} {fs : Array Field} {d : Kd α} {ok : α → Prop} {v : Value} {x : DataW H} {p : List MemPlace} (ho : Opens P w t d ok)
    (ht : P.underlying t = some (.struct fs)) (hv : Value.okWide P w r base' t v) (h : DataW.Trod enc P w base spare held t v x p) : ∃ cs a, v = .agg cs ∧ d.K w a cs.toList ∧ ok a := by
  unfold Value.okWide at hv
  rw [ht] at hv
  obtain ⟨cs, rfl, _, _⟩ := hv
  obtain ⟨n, hn⟩ := h
  obtain ⟨a, ha, hok⟩ := ho.gives _ _ _ _ _ _ _ _ hn
  exact ⟨cs, a, rfl, ha, hok⟩
end
end Go.Proofs.Ytobanhbjkomieaa.OP
