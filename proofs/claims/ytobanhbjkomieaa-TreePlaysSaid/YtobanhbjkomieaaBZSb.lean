import Derived.Test.YtobanhbjkomieaaPAllx2Sb
import Derived.Test.YtobanhbjkomieaaPAllx3Sb
import Derived.Lib.Strings
import Derived.Lib.Bytealg
import Derived.Lib.ConvBytes
import Derived.Lib.AppendStr
import Derived.Deep.RegionWith
section
namespace Go.Proofs.Ytobanhbjkomieaa.KP
open Go.RowKit Go.Proofs.Ytobanhbjkomieaa.PAll Go.Proofs.YtobanhbjkomieaaW.PrintWords Go.Proofs.YtobanhbjkomieaaW.PrintLast
theorem of_ev (c : Int) : Ev (fun _ => keys_of.f c) (kindOf c) := Ev.now _
theorem wrap_succ {i : Int} (h0 : 0 ≤ i) (h : i ≤ 140737488355328) : wrap64 (i + 1) = i + 1 := by unfold wrap64; omega
def allK (least : Int) (l : List UInt8) : Bool := l.all fun b => decide (least ≤ kindOf (b.toNat : Int))
theorem bt_mk (l : List UInt8) (i : Nat) (h : i < l.length) : bt ⟨l.toArray⟩ (i : Int) = ((l[i]'h).toNat : Int) := by
  unfold bt
  have : ((i : Int).toNat) < (⟨l.toArray⟩ : ByteArray).size := by show _ < l.toArray.size; simpa using h
  rw [dif_pos this]
  rfl
theorem size_mk (l : List UInt8) : (⟨l.toArray⟩ : ByteArray).size = l.length := by show l.toArray.size = _; simp
def isName (l : List UInt8) : Bool := !l.isEmpty && (allK 2 l && decide (l.length ≤ 24))
def isKey (l : List UInt8) : Bool := !l.isEmpty && (allK 1 l && decide (l.length ≤ 64))
def isPrefix (l : List UInt8) : Bool := allK 1 l && decide (l.length ≤ 64)
theorem dec_cast (n m : Nat) : decide ((n : Int) ≤ (m : Int)) = decide (n ≤ m) := by
  rw [Bool.eq_iff_iff]; simp
theorem toList_mk (l : List UInt8) : (⟨l.toArray⟩ : ByteArray).toList = l := by rw [Lib.toList_data]
def beginsK (l p : List UInt8) : Bool := p.isPrefixOf l
theorem take_eq_prefix (l p : List UInt8) (h : p.length ≤ l.length) : (l.take p.length == p) = p.isPrefixOf l := by
  have := Lib.hasPrefix_of_take l p
  rw [decide_eq_true h, Bool.true_and] at this
  exact this
theorem hasPrefix_eq (l p : List UInt8) : stringslite_HasPrefix.f ⟨l.toArray⟩ ⟨p.toArray⟩ = some (beginsK l p) := by
  unfold stringslite_HasPrefix.f beginsK
  rw [size_mk, size_mk]
  by_cases h : p.length ≤ l.length
  · rw [if_pos (by omega), if_pos (by omega), if_pos (by omega), Lib.extract_toList, toList_mk]
    simp only [Int.toNat_natCast, List.drop_zero, Nat.sub_zero]
    rw [take_eq_prefix l p h]
  · rw [if_neg (by omega)]
    congr 1
    symm
    rw [Bool.eq_false_iff]
    intro hp
    exact h (List.isPrefixOf_iff_prefix.1 hp).length_le
theorem begins_eq (l p : List UInt8) : keys_Begins.f ⟨l.toArray⟩ ⟨p.toArray⟩ = some (beginsK l p) := by
  simp only [keys_Begins.f, strings_HasPrefix.f, hasPrefix_eq, Option.bind_some]
theorem last_eq (l : List UInt8) (_h : l ≠ []) : ∀ h', (l[l.length - 1]'h') = l.getLastD 0 := by
  intro h'
  rw [List.getLastD_eq_getLast?, List.getLast?_eq_getElem?, List.getElem?_eq_getElem h']
  rfl
end Go.Proofs.Ytobanhbjkomieaa.KP
namespace Go.Proofs.Ytobanhbjkomieaa.KP
open Go.RowKit Go.Proofs.Ytobanhbjkomieaa.PAll Go.Proofs.YtobanhbjkomieaaW.PrintWords Go.Proofs.YtobanhbjkomieaaW.PrintLast
theorem in_l0 (c : Int) (l : List UInt8) (hl : l.length ≤ 140737488351232) : ∀ (d i : Nat), i + d = l.length →
    Ev (fun k => batonref11_in.l0 k c ⟨l.toArray⟩ (i : Int)) ((l.drop i).any fun b => decide ((b.toNat : Int) = c))
  | 0, i, h => by
    refine Ev.step (f := fun _ => some ((l.drop i).any fun b => decide ((b.toNat : Int) = c))) (fun k => ?_) (Ev.now _)
    simp only [batonref11_in.l0]
    rw [size_mk, if_neg (by omega), List.drop_eq_nil_of_le (by omega)]
    rfl
  | d + 1, i, h => by
    have hi : i < l.length := by omega
    have hd : l.drop i = l[i] :: l.drop (i + 1) := List.drop_eq_getElem_cons hi
    have ih := in_l0 c l hl d (i + 1) (by omega)
    rw [hd, List.any_cons]
    by_cases hc : ((l[i].toNat : Int)) = c
    · refine Ev.step (f := fun _ => some true) (fun k => ?_) ?_
      · simp only [batonref11_in.l0]
        rw [if_pos (by rw [size_mk]; omega), if_pos (by omega), bt_mk l i hi, if_pos hc]
      · rw [decide_eq_true hc]
        exact Ev.now _
    · refine Ev.step (f := fun k => batonref11_in.l0 k c ⟨l.toArray⟩ ((i + 1 : Nat) : Int)) (fun k => ?_) ?_
      · simp only [batonref11_in.l0]
        rw [if_pos (by rw [size_mk]; omega), if_pos (by omega), bt_mk l i hi, if_neg hc, wrap_succ (by omega) (by omega)]
        rfl
      · rw [decide_eq_false hc, Bool.false_or]
        exact ih
theorem in_ev (c : Int) (l : List UInt8) (hl : l.length ≤ 140737488351232) : Ev (fun k => batonref11_in.f k c ⟨l.toArray⟩) (l.any fun b => decide ((b.toNat : Int) = c)) :=
  in_l0 c l hl l.length 0 (by omega)
theorem made_l0 (l al : List UInt8) (hl : l.length ≤ 140737488351232) (ha : al.length ≤ 140737488351232) : ∀ (d i : Nat), i + d = l.length →
    Ev (fun k => batonref11_made.l0 k ⟨l.toArray⟩ ⟨al.toArray⟩ (i : Int)) ((l.drop i).all fun x => al.any fun b => decide ((b.toNat : Int) = (x.toNat : Int)))
  | 0, i, h => by
    refine Ev.step (f := fun _ => some ((l.drop i).all fun x => al.any fun b => decide ((b.toNat : Int) = (x.toNat : Int)))) (fun k => ?_) (Ev.now _)
    simp only [batonref11_made.l0]
    rw [size_mk, if_neg (by omega), List.drop_eq_nil_of_le (by omega)]
    rfl
  | d + 1, i, h => by
    have hi : i < l.length := by omega
    have hd : l.drop i = l[i] :: l.drop (i + 1) := List.drop_eq_getElem_cons hi
    have ih := made_l0 l al hl ha d (i + 1) (by omega)
    rw [hd, List.all_cons]
    refine Ev.step (f := fun k => (batonref11_in.f k (l[i].toNat : Int) ⟨al.toArray⟩).bind fun t => if t = true then batonref11_made.l0 k ⟨l.toArray⟩ ⟨al.toArray⟩ ((i + 1 : Nat) : Int) else some false) (fun k => ?_) ?_
    · simp only [batonref11_made.l0]
      rw [if_pos (by rw [size_mk]; omega), if_pos (by omega), bt_mk l i hi, wrap_succ (by omega) (by omega)]
      rfl
    · refine Ev.bind (in_ev _ al ha) ?_
      cases al.any fun b => decide ((b.toNat : Int) = (l[i].toNat : Int))
      · simpa using Ev.now _
      · simpa using ih
theorem made_ev (l al : List UInt8) (most : Nat) (hl : l.length ≤ 140737488351232) (ha : al.length ≤ 140737488351232) :
    Ev (fun k => batonref11_made.f k ⟨l.toArray⟩ ⟨al.toArray⟩ (most : Int)) (decide (l.length ≤ most) && l.all fun x => al.any fun b => decide ((b.toNat : Int) = (x.toNat : Int))) := by
  by_cases h : l.length ≤ most
  · rw [decide_eq_true h, Bool.true_and]
    refine Ev.congr (f := fun k => batonref11_made.l0 k ⟨l.toArray⟩ ⟨al.toArray⟩ ((0 : Nat) : Int)) (fun k => ?_) (made_l0 l al hl ha l.length 0 (by omega))
    simp only [batonref11_made.f]
    rw [if_neg (by rw [size_mk]; omega)]
    rfl
  · rw [decide_eq_false h, Bool.false_and]
    refine Ev.congr (f := fun _ => some false) (fun k => ?_) (Ev.now _)
    simp only [batonref11_made.f]
    rw [if_pos (by rw [size_mk]; omega)]
def nameBytes : List UInt8 := [97, 98, 99, 100, 101, 102, 103, 104, 105, 106, 107, 108, 109, 110, 111, 112, 113, 114, 115, 116, 117, 118, 119, 120, 121, 122, 65, 66, 67, 68, 69, 70, 71, 72, 73, 74, 75, 76, 77, 78, 79, 80, 81, 82, 83, 84, 85, 86, 87, 88, 89, 90, 48, 49, 50, 51, 52, 53, 54, 55, 56, 57, 45, 95, 46]
theorem keyBytes_all : ∀ n : Fin 256, ((nameBytes ++ [47]).any fun b => decide ((b.toNat : Int) = ((n.val : Nat) : Int))) = decide (1 ≤ kindOf ((n.val : Nat) : Int)) := by decide +kernel
theorem all_keys (l : List UInt8) : (l.all fun x => (nameBytes ++ [47]).any fun b => decide ((b.toNat : Int) = (x.toNat : Int))) = allK 1 l := by
  unfold allK
  congr 1
  funext x
  exact keyBytes_all ⟨x.toNat, x.toNat_lt⟩
theorem rkey_ev (l : List UInt8) (hl : l.length ≤ 140737488351232) : Ev (fun k => batonref11_Key.f k ⟨l.toArray⟩) (isKey l) := by
  have h1 := made_ev l (nameBytes ++ [47]) 64 hl (by decide)
  rw [all_keys] at h1
  unfold isKey
  by_cases h : l = []
  · subst h
    refine Ev.congr (f := fun _ => some false) (fun k => ?_) (Ev.now _)
    simp only [batonref11_Key.f]
    rw [if_neg (by rw [size_mk]; decide)]
  · have h2 : l.isEmpty = false := by cases l <;> simp_all
    have hne : l.length ≠ 0 := by simpa using h
    rw [h2, Bool.not_false, Bool.true_and, Bool.and_comm]
    refine Ev.congr (f := fun k => (batonref11_made.f k ⟨l.toArray⟩ ⟨(nameBytes ++ [47]).toArray⟩ ((64 : Nat) : Int)).bind fun t => some t) (fun k => ?_) (Ev.bind h1 (Ev.now _))
    simp only [batonref11_Key.f]
    rw [if_pos (by rw [size_mk]; omega)]
    rfl
theorem rprefix_ev (l : List UInt8) (hl : l.length ≤ 140737488351232) : Ev (fun k => batonref11_Prefix.f k ⟨l.toArray⟩) (isPrefix l) := by
  have h1 := made_ev l (nameBytes ++ [47]) 64 hl (by decide)
  rw [all_keys] at h1
  unfold isPrefix
  rw [Bool.and_comm]
  exact Ev.bind h1 (Ev.now _)
end Go.Proofs.Ytobanhbjkomieaa.KP
namespace Go.Proofs.Ytobanhbjkomieaa.KP
open Go.RowKit Go.Proofs.Ytobanhbjkomieaa.PAll Go.Proofs.YtobanhbjkomieaaW.PrintWords Go.Proofs.YtobanhbjkomieaaW.PrintLast
theorem ev_calls {α : Type} {g : Nat → Option α} {r : α} (h : Ev g r) {Q : Prop} (k : ∀ n, g n = some r → Q) : Q := by
  obtain ⟨n, hn⟩ := h.rounds
  exact k n hn
section
variable (s t : ByteArray) (hs : s.size ≤ 140737488351232) (ht : t.size ≤ 140737488351232) (w : World)
include hs
include ht
end
theorem keysBegins_any (s p : ByteArray) (w : World) : Calls Try.prog 117 #[.string s, .string p] w fun e w' => e = .returned (.bool (beginsK s.data.toList p.data.toList)) ∧ Drawn0 w w' := by
  obtain ⟨⟨l⟩⟩ := s
  obtain ⟨⟨m⟩⟩ := p
  exact keys_Begins.calls _ _ _ w (begins_eq l m)
end Go.Proofs.Ytobanhbjkomieaa.KP
namespace Go.Proofs.Ytobanhbjkomieaa.KP
open Go.RowKit Go.Proofs.Ytobanhbjkomieaa.PAll Go.Proofs.YtobanhbjkomieaaW.PrintWords Go.Proofs.YtobanhbjkomieaaW.PrintLast
end Go.Proofs.Ytobanhbjkomieaa.KP
namespace Go.Proofs.Ytobanhbjkomieaa.KP
open Go.RowKit Go.Proofs.Ytobanhbjkomieaa.PAll Go.Proofs.YtobanhbjkomieaaW.PrintWords Go.Proofs.YtobanhbjkomieaaW.PrintLast
end Go.Proofs.Ytobanhbjkomieaa.KP
end
section
namespace Go.Proofs.Ytobanhbjkomieaa.BP
open Go.RowKit Go.Proofs.Ytobanhbjkomieaa.PAll Go.Proofs.YtobanhbjkomieaaW.PrintWords Go.Proofs.YtobanhbjkomieaaW.PrintLast Go.Proofs.YtobanhbjkomieaaW.PrintMore
def vint (n : Nat) : List Int := if n < 128 then [(n : Int)] else (((n % 128 : Nat) : Int) + 128) :: vint (n / 128)
termination_by n
decreasing_by omega
end Go.Proofs.Ytobanhbjkomieaa.BP
namespace Go.Proofs.Ytobanhbjkomieaa.BP
open Go.RowKit Go.Proofs.Ytobanhbjkomieaa.PAll Go.Proofs.YtobanhbjkomieaaW.PrintWords Go.Proofs.YtobanhbjkomieaaW.PrintLast Go.Proofs.YtobanhbjkomieaaW.PrintMore
end Go.Proofs.Ytobanhbjkomieaa.BP
end
