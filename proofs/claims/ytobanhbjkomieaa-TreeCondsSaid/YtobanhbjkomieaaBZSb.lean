import Derived.Test.YtobanhbjkomieaaPAllx3Sb
import Derived.Lib.Strings
import Derived.Lib.Bytealg
import Derived.Lib.ConvBytes
import Derived.Lib.AppendStr
import Derived.Deep.RegionWith
section
namespace Go.Proofs.Ytobanhbjkomieaa.KP
open Go.RowKit Go.Proofs.Ytobanhbjkomieaa.PAll Go.Proofs.YtobanhbjkomieaaW.PrintWords Go.Proofs.YtobanhbjkomieaaW.PrintLast
theorem of_ev (c : Int) : Ev (fun _ => keys_of.f c) (kindOf c) := Ev.now _
def allK (least : Int) (l : List UInt8) : Bool := l.all fun b => decide (least ≤ kindOf (b.toNat : Int))
theorem bt_mk (l : List UInt8) (i : Nat) (h : i < l.length) : bt ⟨l.toArray⟩ (i : Int) = ((l[i]'h).toNat : Int) := by
  unfold bt
  have : ((i : Int).toNat) < (⟨l.toArray⟩ : ByteArray).size := by show _ < l.toArray.size; simpa using h
  rw [dif_pos this]
  rfl
theorem size_mk (l : List UInt8) : (⟨l.toArray⟩ : ByteArray).size = l.length := by show l.toArray.size = _; simp
def isName (l : List UInt8) : Bool := !l.isEmpty && (allK 2 l && decide (l.length ≤ 24))
def isKey (l : List UInt8) : Bool := !l.isEmpty && (allK 1 l && decide (l.length ≤ 64))
def isPrefix (l : List UInt8) : Bool := allK 1 l && decide (l.length ≤ 64)
theorem dec_cast (n m : Nat) : decide ((n : Int) ≤ (m : Int)) = decide (n ≤ m) := by
  rw [Bool.eq_iff_iff]; simp
theorem toList_mk (l : List UInt8) : (⟨l.toArray⟩ : ByteArray).toList = l := by rw [Lib.toList_data]
def beginsK (l p : List UInt8) : Bool := p.isPrefixOf l
theorem take_eq_prefix (l p : List UInt8) (h : p.length ≤ l.length) : (l.take p.length == p) = p.isPrefixOf l := by
  have := Lib.hasPrefix_of_take l p
  rw [decide_eq_true h, Bool.true_and] at this
  exact this
theorem hasPrefix_eq (l p : List UInt8) : stringslite_HasPrefix.f ⟨l.toArray⟩ ⟨p.toArray⟩ = some (beginsK l p) := by
  unfold stringslite_HasPrefix.f beginsK
  rw [size_mk, size_mk]
  by_cases h : p.length ≤ l.length
  · rw [if_pos (by omega), if_pos (by omega), if_pos (by omega), Lib.extract_toList, toList_mk]
    simp only [Int.toNat_natCast, List.drop_zero, Nat.sub_zero]
    rw [take_eq_prefix l p h]
  · rw [if_neg (by omega)]
    congr 1
    symm
    rw [Bool.eq_false_iff]
    intro hp
    exact h (List.isPrefixOf_iff_prefix.1 hp).length_le
theorem begins_eq (l p : List UInt8) : keys_Begins.f ⟨l.toArray⟩ ⟨p.toArray⟩ = some (beginsK l p) := by
  simp only [keys_Begins.f, strings_HasPrefix.f, hasPrefix_eq, Option.bind_some]
end Go.Proofs.Ytobanhbjkomieaa.KP
namespace Go.Proofs.Ytobanhbjkomieaa.KP
open Go.RowKit Go.Proofs.Ytobanhbjkomieaa.PAll Go.Proofs.YtobanhbjkomieaaW.PrintWords Go.Proofs.YtobanhbjkomieaaW.PrintLast
end Go.Proofs.Ytobanhbjkomieaa.KP
namespace Go.Proofs.Ytobanhbjkomieaa.KP
open Go.RowKit Go.Proofs.Ytobanhbjkomieaa.PAll Go.Proofs.YtobanhbjkomieaaW.PrintWords Go.Proofs.YtobanhbjkomieaaW.PrintLast
theorem ev_calls {α : Type} {g : Nat → Option α} {r : α} (h : Ev g r) {Q : Prop} (k : ∀ n, g n = some r → Q) : Q := by
  obtain ⟨n, hn⟩ := h.rounds
  exact k n hn
section
variable (s t : ByteArray) (hs : s.size ≤ 140737488351232) (ht : t.size ≤ 140737488351232) (w : World)
include hs
include ht
end
theorem keysBegins_any (s p : ByteArray) (w : World) : Calls Try.prog 117 #[.string s, .string p] w fun e w' => e = .returned (.bool (beginsK s.data.toList p.data.toList)) ∧ Drawn0 w w' := by
  obtain ⟨⟨l⟩⟩ := s
  obtain ⟨⟨m⟩⟩ := p
  exact keys_Begins.calls _ _ _ w (begins_eq l m)
end Go.Proofs.Ytobanhbjkomieaa.KP
namespace Go.Proofs.Ytobanhbjkomieaa.KP
open Go.RowKit Go.Proofs.Ytobanhbjkomieaa.PAll Go.Proofs.YtobanhbjkomieaaW.PrintWords Go.Proofs.YtobanhbjkomieaaW.PrintLast
end Go.Proofs.Ytobanhbjkomieaa.KP
namespace Go.Proofs.Ytobanhbjkomieaa.KP
open Go.RowKit Go.Proofs.Ytobanhbjkomieaa.PAll Go.Proofs.YtobanhbjkomieaaW.PrintWords Go.Proofs.YtobanhbjkomieaaW.PrintLast
end Go.Proofs.Ytobanhbjkomieaa.KP
end
section
namespace Go.Proofs.Ytobanhbjkomieaa.BP
open Go.RowKit Go.Proofs.Ytobanhbjkomieaa.PAll Go.Proofs.YtobanhbjkomieaaW.PrintWords Go.Proofs.YtobanhbjkomieaaW.PrintLast Go.Proofs.YtobanhbjkomieaaW.PrintMore
def vint (n : Nat) : List Int := if n < 128 then [(n : Int)] else (((n % 128 : Nat) : Int) + 128) :: vint (n / 128)
termination_by n
decreasing_by omega
end Go.Proofs.Ytobanhbjkomieaa.BP
namespace Go.Proofs.Ytobanhbjkomieaa.BP
open Go.RowKit Go.Proofs.Ytobanhbjkomieaa.PAll Go.Proofs.YtobanhbjkomieaaW.PrintWords Go.Proofs.YtobanhbjkomieaaW.PrintLast Go.Proofs.YtobanhbjkomieaaW.PrintMore
end Go.Proofs.Ytobanhbjkomieaa.BP
end
