import Derived.Test.YtobanhbjkomieaaUCSb
namespace Go.Proofs.Ytobanhbjkomieaa.TA
open Go Go.RowKit Go.Proofs.Ytobanhbjkomieaa.KP Go.Proofs.YtobanhbjkomieaaW.PrintWords Go.Proofs.YtobanhbjkomieaaW.PrintLast Go.Proofs.YtobanhbjkomieaaW.PrintMore
set_option linter.unusedSimpArgs false
set_option linter.unusedVariables false
theorem At.keepT {W W' : World} {tb : Nat} {t : AT} {m : Md} {ad : Option Addr} {c : Nat} (h : At W tb t m ad c) (hk : ∀ (k : Nat) (cs : Array Value) (T : TypeId), T = 166 ∨ T = 218 → W.heap[k]? = some (.cells cs T (0, 0)) → W'.heap[k]? = W.heap[k]?)
    (hh : ∀ a, ad = some a → 0 < m.hap.length → W'.heap[a.block]? = W.heap[a.block]?) : At W' tb t m ad c :=
  ⟨(hk _ _ _ (.inl rfl) h.blk).trans h.blk, AT.In.keep (fun k cs hc => hk k cs _ (.inr rfl) hc) h.ins, h.tall, h.row, C_keep h.hap hh, h.cap, h.ok⟩
theorem At.setTxn {W : World} {tb : Nat} {t : AT} {m : Md} {ad : Option Addr} {c : Nat} (h : At W tb t m ad c) {b : Nat} {A0 A1 : Option Addr} {n0 n1 c0 c1 : Nat} (hb : W.heap[b]? = some (.cells #[.slice A0 n0 c0, .slice A1 n1 c1] 34 (0, 0))) (j : Nat) (u : Value) :
    At (W.setCell ⟨b, j, none⟩ u) tb t m ad c := by
  refine h.keepT (fun k cs T hT hk => Below.heap_setCell W ⟨b, j, none⟩ u k ?_) (fun a ha hn => Below.heap_setCell W ⟨b, j, none⟩ u a.block ?_)
  · refine far_type hb hk ?_
    rcases hT with rfl | rfl <;> decide
  · obtain ⟨i, z, hc⟩ := hap_cell h.hap a ha hn
    intro e
    have e : a.block = b := e
    rw [e, blk_cell hb i] at hc
    match i, hc with
    | 0, hc => cases hc
    | 1, hc => cases hc
    | i + 2, hc => simp at hc
theorem At.grownC {W w1 : World} {tb : Nat} {t : AT} {m : Md} {ad : Option Addr} {c : Nat} (h : At W tb t m ad c) {row : Option Nat} (hg : W.grownBy w1 row)
    (hty : ∀ k, row = some k → ∃ cells, W.heap[k]? = some (.cells cells 73 (0, 0))) (hfar : ∀ a, ad = some a → 0 < m.hap.length → some a.block ≠ row) : At w1 tb t m ad c := by
  refine h.keepT (fun k cs T hT hk => hg.block k (blk_lt hk) (fun e => ?_)) (fun a ha hn => hg.block _ (hap_lt h.hap a ha hn) (hfar a ha hn))
  obtain ⟨ds, hd⟩ := hty k e.symm
  rw [hk] at hd
  injection hd with hd
  injection hd with _ hd
  rcases hT with rfl | rfl
  · exact absurd hd (by decide)
  · exact absurd hd (by decide)
theorem at_Str {w : World} {A : Option Addr} {l : List ByteArray} (h : Kd.C Kd.string w A l.length l) {k : Nat} (hk : k < l.length) : ∃ ad, A = some ad ∧ w.cell? (ad.add k) = some (.string l[k]) := by
  obtain ⟨ad, c, e, _, hK, hc⟩ := Kd.C_get h ⟨#[]⟩ (k : Int) (by omega) (by omega)
  simp only [Int.toNat_natCast, List.getD_eq_getElem?_getD, List.getElem?_eq_getElem hk, Option.getD_some] at hK hc
  obtain rfl : c = [.string l[k]] := hK
  have hc : ∀ j u, _ → w.cell? (ad.add (k * 1 + j)) = some u := hc
  have := hc 0 _ rfl
  rw [Nat.mul_one, Nat.add_zero] at this
  exact ⟨ad, e, this⟩
theorem condOf_take (row : List Ent) (ks : List ByteArray) {k : Nat} (h : k < ks.length) : (ks.take (k + 1)).map (fun q => (⟨q, (getD q row).mod⟩ : Cnd)) = (ks.take k).map (fun q => (⟨q, (getD q row).mod⟩ : Cnd)) ++ [⟨ks[k], (getD ks[k] row).mod⟩] := by
  rw [take_snoc h, List.map_append, List.map_singleton]
end Go.Proofs.Ytobanhbjkomieaa.TA
