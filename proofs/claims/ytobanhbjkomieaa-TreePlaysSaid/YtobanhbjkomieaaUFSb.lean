import Derived.Test.YtobanhbjkomieaaUCSb
namespace Go.Proofs.Ytobanhbjkomieaa.TA
open Go Go.RowKit Go.Proofs.Ytobanhbjkomieaa.KP Go.Proofs.YtobanhbjkomieaaW.PrintWords Go.Proofs.YtobanhbjkomieaaW.PrintLast Go.Proofs.YtobanhbjkomieaaW.PrintMore
set_option linter.unusedSimpArgs false
set_option linter.unusedVariables false
theorem At.keepT {W W' : World} {tb : Nat} {t : AT} {m : Md} {ad : Option Addr} {c : Nat} (h : At W tb t m ad c) (hk : ∀ (k : Nat) (cs : Array Value) (T : TypeId), T = 166 ∨ T = 218 → W.heap[k]? = some (.cells cs T (0, 0)) → W'.heap[k]? = W.heap[k]?)
    (hh : ∀ a, ad = some a → 0 < m.hap.length → W'.heap[a.block]? = W.heap[a.block]?) : At W' tb t m ad c :=
  ⟨(hk _ _ _ (.inl rfl) h.blk).trans h.blk, AT.In.keep (fun k cs hc => hk k cs _ (.inr rfl) hc) h.ins, h.tall, h.row, C_keep h.hap hh, h.cap, h.ok⟩
end Go.Proofs.Ytobanhbjkomieaa.TA
