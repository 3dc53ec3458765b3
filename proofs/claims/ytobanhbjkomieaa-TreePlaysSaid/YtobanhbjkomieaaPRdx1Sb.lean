import Derived.Test.YtobanhbjkomieaaProg
import Derived.Below
import Derived.Deep.Draws
import Derived.Deep.AppendLies
import Derived.Maps.AppendAt
import Derived.OwnWalk
import Derived.Laws.BytesArg
import Derived.Laws.MakeOwn
import Derived.Laws.OwnMore
import Derived.Deep.OwnRows
import Derived.Tactics
import Derived.Lib.ConvBytes
import Derived.Laws.Slices
import Derived.WalkKit
import Derived.KernelRfl
import Derived.RowKit3
import Derived.Deep.LoopGhost
import Derived.Deep.QuietTactic
import Derived.BigQuiet
import Derived.WideLaws
import Derived.Deep.DeepCutAuto
import Derived.Deep.CutBlock
import Derived.Deep.RegionHeld3
import Derived.Laws.Rows
import Derived.Lib.AppendStr
import Derived.ArgAppend
import Derived.Laws.IdiomCopy
import Derived.OrdersHeld
import Derived.Laws.BitsLemmas
import Derived.RowKit
import Derived.Lib.Bytealg
import Derived.Lib.Hide
import Derived.WalkSpells
import Derived.Laws.Externs
import Derived.WalkLawsBesides
import Derived.Test.YtobanhbjkomieaaWWordsSb
import Derived.Test.YtobanhbjkomieaaWKeptSb
import Derived.Test.YtobanhbjkomieaaWMoreSb
section
namespace Go.Proofs.Ytobanhbjkomieaa.PRd
open Go.RowKit Go.Proofs.YtobanhbjkomieaaW.PrintWords Go.Proofs.YtobanhbjkomieaaW.PrintLast Go.Proofs.YtobanhbjkomieaaW.PrintMore
attribute [local go_sem] max2_int min2_int max_two min_two max_three min_three max_four min_four   -- for this text's walks alone
set_option linter.unusedVariables false
set_option linter.unusedSimpArgs false
def errW : Option Int → Value
 | none => .nilIface
 | some c => .iface 0 (.int .i64 c)
theorem errW_none : errW none = .nilIface := rfl
theorem errW_some (c : Int) : errW (some c) = .iface 0 (.int .i64 c) := rfl
end Go.Proofs.Ytobanhbjkomieaa.PRd
end
section
namespace Go.Proofs.Ytobanhbjkomieaa.PRd
open Go.RowKit Go.Proofs.YtobanhbjkomieaaW.PrintWords Go.Proofs.YtobanhbjkomieaaW.PrintLast Go.Proofs.YtobanhbjkomieaaW.PrintMore
attribute [local go_sem] max2_int min2_int max_two min_two max_three min_three max_four min_four   -- for this text's walks alone
set_option linter.unusedVariables false
set_option linter.unusedSimpArgs false
def IsS225 (w0 W : World) (g : Nat) (f0 : ByteArray) (f1 : Int) (f2 : Int) : Prop := W.heap[g]? = some (.cells #[.string f0, .int .i64 f1, .int .i64 f2] 225 (0, 0)) ∧ w0.heap.size ≤ g
theorem IsS225.grown {w0 W : World} {g : Nat} {f0 : ByteArray} {f1 : Int} {f2 : Int} {W1 : World} {row : Option Nat} (h : IsS225 w0 W g f0 f1 f2) (hw : W.grownBy W1 row) (hne : some g ≠ row) : IsS225 w0 W1 g f0 f1 f2 := by
 obtain ⟨hb, hg⟩ := h
 exact ⟨blk_grown hb hw hne, hg⟩
theorem IsS225.kept {w0 W : World} {g : Nat} {f0 : ByteArray} {f1 : Int} {f2 : Int} {W1 : World} {S : Nat → Prop} (h : IsS225 w0 W g f0 f1 f2) (hk : Kept W W1 S) (hne : ¬ S g) : IsS225 w0 W1 g f0 f1 f2 := by
 obtain ⟨hb, hg⟩ := h
 exact ⟨blk_kept hb hk hne, hg⟩
theorem IsS225.below {w0 W : World} {g : Nat} {f0 : ByteArray} {f1 : Int} {f2 : Int} {W1 : World} (h : IsS225 w0 W g f0 f1 f2) (hw : Below W.heap.size W W1) : IsS225 w0 W1 g f0 f1 f2 := h.grown (grown_of_below hw none) (by simp)
theorem IsS225.alloc {w0 W : World} {g : Nat} {f0 : ByteArray} {f1 : Int} {f2 : Int} (h : IsS225 w0 W g f0 f1 f2) (o : Obj) : IsS225 w0 (W.alloc o) g f0 f1 f2 := h.below (below_alloc (Below.refl _ _) o)
theorem IsS225.drewN {w0 W : World} {g : Nat} {f0 : ByteArray} {f1 : Int} {f2 : Int} (h : IsS225 w0 W g f0 f1 f2) (m : Nat) : IsS225 w0 (W.drewN m) g f0 f1 f2 := h
theorem IsS225.drew {w0 W : World} {g : Nat} {f0 : ByteArray} {f1 : Int} {f2 : Int} (h : IsS225 w0 W g f0 f1 f2) : IsS225 w0 W.drew g f0 f1 f2 := h
theorem IsS225.at_ {w0 W : World} {g : Nat} {f0 : ByteArray} {f1 : Int} {f2 : Int} {w' : World} {m : Nat} (hq : W.drewN m = w') (h : IsS225 w0 W g f0 f1 f2) : IsS225 w0 w' g f0 f1 f2 := by subst hq; exact IsS225.drewN h m
theorem IsS225.apart {w0 W : World} {g : Nat} {f0 : ByteArray} {f1 : Int} {f2 : Int} {α : Type} {d : Kd α} {e : Nat} {base : Nat} {ok : Nat → Prop} {v : Value} {xs : List α} (h : IsS225 w0 W g f0 f1 f2) (ho : d.R e W base ok v xs) (ht : ∀ q, q ∈ e :: d.E → q ≠ 225) : d.R e W base (fun k => ok k ∧ k ≠ g) v xs := by
 obtain ⟨hb, hg⟩ := h
 exact Kd.R_types ho hb ht
theorem IsS225.own_ne {w0 W : World} {g : Nat} {f0 : ByteArray} {f1 : Int} {f2 : Int} {α : Type} {d : Kd α} {e : Nat} {base : Nat} {ok : Nat → Prop} {v : Value} {xs : List α} (h : IsS225 w0 W g f0 f1 f2) (ho : d.R e W base ok v xs) (ht : e ≠ 225) : some g ≠ v.ownBlock := by
 obtain ⟨hb, hg⟩ := h
 exact Kd.R_ne ho hb ht
theorem IsS225.lt {w0 W : World} {g : Nat} {f0 : ByteArray} {f1 : Int} {f2 : Int} (h : IsS225 w0 W g f0 f1 f2) : g < W.heap.size := by
 obtain ⟨hb, hg⟩ := h
 exact blk_lt hb
theorem IsS225.far {w0 W : World} {g : Nat} {f0 : ByteArray} {f1 : Int} {f2 : Int} {p : Addr} (h : IsS225 w0 W g f0 f1 f2) (hne : g ≠ p.block) (u : Value) : IsS225 w0 (W.setCell p u) g f0 f1 f2 := by
 obtain ⟨hb, hg⟩ := h
 exact ⟨blk_far hb hne u, hg⟩
theorem IsS225.new (w0 W : World) (f0 : ByteArray) (f1 : Int) (f2 : Int) (hB : Below w0.heap.size w0 W) : IsS225 w0 (W.alloc (.cells #[.string f0, .int .i64 f1, .int .i64 f2] 225)) W.heap.size f0 f1 f2 := ⟨by simpa using heap_alloc_new W _, hB.size⟩
def rv (i acc : Nat) : List UInt8 → Nat × Nat × Int
 | [] => (0, 0, 8)
 | b :: l => if i = 9 ∧ 1 < b.toNat then (0, 0, 4) else if b.toNat < 128 then (acc + 128 ^ i * b.toNat, i + 1, 0) else rv (i + 1) (acc + 128 ^ i * (b.toNat % 128)) l
def uv (s : List UInt8) (at_ : Nat) : Nat × Nat × Int := let r := rv 0 0 (s.drop at_); if r.2.2 = 0 then (r.1, at_ + r.2.1, 0) else (0, 0, r.2.2)
theorem uv_bad {s : List UInt8} {p i acc : Nat} {e : Int} {l : List UInt8} (h : rv i acc l = rv 0 0 (s.drop p)) (h1 : rv i acc l = (0, 0, e)) (he : e ≠ 0) : uv s p = (0, 0, e) := by
 simp only [uv, ← h, h1, if_neg he]
theorem uv_ok {s : List UInt8} {p i acc n k : Nat} {l : List UInt8} (h : rv i acc l = rv 0 0 (s.drop p)) (h1 : rv i acc l = (n, k, 0)) : uv s p = (n, p + k, 0) := by
 simp only [uv, ← h, h1, if_true]
theorem pow_le8 {i : Nat} (h : i < 9) : 128 ^ i ≤ 72057594037927936 := Nat.pow_le_pow_right (n := 128) (j := 8) (by omega) (by omega)
theorem next_lt {i acc b : Nat} (ha : acc < 128 ^ i) (hb : b < 128) : acc + 128 ^ i * b < 128 ^ (i + 1) := by
 rw [Nat.pow_succ]
 have : 128 ^ i * b ≤ 128 ^ i * 127 := Nat.mul_le_mul_left _ (by omega)
 omega
theorem next_lt9 {i acc b : Nat} (hi : i < 9) (ha : acc < 128 ^ i) (hb : b < 128) : acc + 128 ^ i * b < 18446744073709551616 := by
 have h := next_lt ha hb
 have : 128 ^ (i + 1) ≤ 9223372036854775808 := Nat.pow_le_pow_right (n := 128) (j := 9) (by omega) (by omega)
 omega
end Go.Proofs.Ytobanhbjkomieaa.PRd
end
