import Derived.Test.YtobanhbjkomieaaRows
import Derived.ProofKit
import Derived.WalkKit
import Derived.WideShapes
import Derived.Lib.Strings
section
namespace Go.Proofs.Ytobanhbjkomieaa.JP
open Go.ChangeShapes Go.WideShapes Go.ChangeAt Go.RowKit
theorem j1 : (laidOutB Try.checked.prog) = true := by kernel_rfl
theorem j2 : (mapsRowed Try.checked.prog) = true := by kernel_rfl
theorem j22 : ((Rows.electPlansRow.plainKeys == Try.checked.prog.plainKeys)) = true := by kernel_rfl
theorem j24 : (Try.checked.prog.stopsHeard) = true := by kernel_rfl
theorem j25 : (Try.checked.prog.mayEnter) = true := by kernel_rfl
theorem j26 : ((Rows.electPlansRow.lifted == Try.checked.prog.liftsFinal)) = true := by kernel_rfl
theorem j27 : ((Try.checked.prog.make == some Rows.electPlansRow.make)) = true := by kernel_rfl
end Go.Proofs.Ytobanhbjkomieaa.JP
end
section
namespace Go.Proofs.Ytobanhbjkomieaa.TA
open Go
set_option linter.unusedSimpArgs false
set_option linter.unusedVariables false
def lt (a b : ByteArray) : Bool := Op.bytesLess a.toList b.toList
theorem less_eq : ∀ (x y : List UInt8), Op.bytesLess x y = decide (x < y)
  | [], [] => by simp [Op.bytesLess]
  | _ :: _, [] => by simp [Op.bytesLess]
  | [], _ :: _ => by simp [Op.bytesLess]
  | a :: x, b :: y => by
    rw [Op.bytesLess, less_eq x y]
    simp only [List.cons_lt_cons_iff]
    by_cases h1 : a < b <;> by_cases h2 : a = b <;> by_cases h3 : x < y <;> simp [h1, h2, h3]
theorem toList_inj {a b : ByteArray} (h : a.toList = b.toList) : a = b := by
  rw [Lib.toList_data, Lib.toList_data] at h
  exact WideShapes.bytes_inj h
theorem lt_irrefl (a : ByteArray) : lt a a = false := by unfold lt; rw [less_eq]; simp
theorem lt_trans {a b c : ByteArray} (h : lt a b = true) (k : lt b c = true) : lt a c = true := by
  unfold lt at *
  rw [less_eq] at *
  simp only [decide_eq_true_eq] at *
  exact List.lt_trans h k
theorem lt_asymm {a b : ByteArray} (h : lt a b = true) : lt b a = false := by
  cases k : lt b a
  · rfl
  · have := lt_trans h k; rw [lt_irrefl] at this; cases this
theorem lt_tri {a b : ByteArray} (h : lt a b = false) (k : lt b a = false) : a = b := by
  unfold lt at *
  rw [less_eq] at *
  simp only [decide_eq_false_iff_not] at *
  exact toList_inj (List.le_antisymm k h)
theorem lt_ne {a b : ByteArray} (h : lt a b = true) : a ≠ b := by rintro rfl; rw [lt_irrefl] at h; cases h
structure Ent where
  key : ByteArray
  val : ByteArray
  made : Int
  mod : Int
deriving DecidableEq
def Srt (l : List Ent) : Prop := l.Pairwise fun a b => lt a.key b.key = true
def insL (x : Ent) : List Ent → List Ent
  | [] => [x]
  | y :: l => if lt x.key y.key then x :: y :: l else if lt y.key x.key then y :: insL x l else x :: l
def delL (k : ByteArray) (l : List Ent) : List Ent := l.filter fun y => !decide (y.key = k)
def getL (k : ByteArray) (l : List Ent) : Option Ent := l.find? fun y => decide (y.key = k)
theorem srt_mid {L R : List Ent} {e : Ent} : Srt (L ++ e :: R) ↔ Srt L ∧ Srt R ∧ (∀ y ∈ L, lt y.key e.key = true) ∧ (∀ y ∈ R, lt e.key y.key = true) ∧ ∀ y ∈ L, ∀ z ∈ R, lt y.key z.key = true := by
  unfold Srt
  rw [List.pairwise_append, List.pairwise_cons]
  constructor
  · rintro ⟨h1, ⟨h2, h3⟩, h4⟩
    exact ⟨h1, h3, fun y hy => h4 y hy e (by simp), h2, fun y hy z hz => h4 y hy z (by simp [hz])⟩
  · rintro ⟨h1, h2, h3, h4, h5⟩
    refine ⟨h1, ⟨h4, h2⟩, fun y hy z hz => ?_⟩
    rcases List.mem_cons.1 hz with rfl | hz
    · exact h3 y hy
    · exact h5 y hy z hz
theorem ins_left {x e : Ent} {R : List Ent} (h : lt x.key e.key = true) : ∀ L : List Ent, insL x (L ++ e :: R) = insL x L ++ e :: R
  | [] => by simp [insL, h]
  | y :: L => by
    simp only [List.cons_append, insL, ins_left h L]
    split
    · rfl
    · split <;> rfl
theorem ins_right {x e : Ent} {R : List Ent} (h : lt e.key x.key = true) : ∀ L : List Ent, (∀ y ∈ L, lt y.key e.key = true) → insL x (L ++ e :: R) = L ++ e :: insL x R
  | [], _ => by simp [insL, h, lt_asymm h]
  | y :: L, hL => by
    have h1 := lt_trans (hL y (by simp)) h
    simp [insL, h1, lt_asymm h1, ins_right h L (fun z hz => hL z (by simp [hz]))]
theorem ins_here {x e : Ent} {R : List Ent} (h : x.key = e.key) : ∀ L : List Ent, (∀ y ∈ L, lt y.key e.key = true) → insL x (L ++ e :: R) = L ++ x :: R
  | [], _ => by simp [insL, h, lt_irrefl]
  | y :: L, hL => by
    have h1 := hL y (by simp)
    rw [← h] at h1
    simp [insL, h1, lt_asymm h1, ins_here h L (fun z hz => hL z (by simp [hz]))]
theorem ins_mem {x z : Ent} : ∀ {l : List Ent}, z ∈ insL x l → z = x ∨ z ∈ l
  | [], h => by simp [insL] at h; exact Or.inl h
  | y :: l, h => by
    unfold insL at h
    split at h
    · simpa using h
    · split at h
      · rcases List.mem_cons.1 h with rfl | h
        · simp
        · rcases ins_mem h with rfl | h
          · simp
          · simp [h]
      · rcases List.mem_cons.1 h with rfl | h
        · simp
        · simp [h]
theorem ins_srt {x : Ent} : ∀ {l : List Ent}, Srt l → Srt (insL x l)
  | [], _ => by simp [insL, Srt]
  | y :: l, h => by
    have h' := List.pairwise_cons.1 h
    unfold insL
    split
    · rename_i c
      refine List.pairwise_cons.2 ⟨fun z hz => ?_, h⟩
      rcases List.mem_cons.1 hz with rfl | hz
      · exact c
      · exact lt_trans c (h'.1 z hz)
    · split
      · rename_i c
        refine List.pairwise_cons.2 ⟨fun z hz => ?_, ins_srt h'.2⟩
        rcases ins_mem hz with rfl | hz
        · exact c
        · exact h'.1 z hz
      · rename_i c d
        have e : x.key = y.key := lt_tri (by simpa using c) (by simpa using d)
        refine List.pairwise_cons.2 ⟨fun z hz => ?_, h'.2⟩
        rw [e]
        exact h'.1 z hz
theorem del_srt {k : ByteArray} {l : List Ent} (h : Srt l) : Srt (delL k l) := List.Pairwise.filter _ h
theorem del_none {k : ByteArray} {l : List Ent} (h : ∀ y ∈ l, y.key ≠ k) : delL k l = l := by
  unfold delL
  rw [List.filter_eq_self]
  intro y hy
  simp [h y hy]
theorem del_left {k : ByteArray} {L R : List Ent} {e : Ent} (h : lt k e.key = true) (hs : Srt (L ++ e :: R)) : delL k (L ++ e :: R) = delL k L ++ e :: R := by
  obtain ⟨_, _, _, h4, _⟩ := srt_mid.1 hs
  have h1 : delL k R = R := del_none fun y hy c => by have := lt_trans h (h4 y hy); rw [c, lt_irrefl] at this; cases this
  have h2 : e.key ≠ k := fun c => by rw [c, lt_irrefl] at h; cases h
  unfold delL at *
  rw [List.filter_append, List.filter_cons, h1]
  simp [h2]
theorem del_right {k : ByteArray} {L R : List Ent} {e : Ent} (h : lt e.key k = true) (hs : Srt (L ++ e :: R)) : delL k (L ++ e :: R) = L ++ e :: delL k R := by
  obtain ⟨_, _, h3, _, _⟩ := srt_mid.1 hs
  have h1 : delL k L = L := del_none fun y hy c => by have := lt_trans (h3 y hy) h; rw [c, lt_irrefl] at this; cases this
  have h2 : e.key ≠ k := fun c => by rw [c, lt_irrefl] at h; cases h
  unfold delL at *
  rw [List.filter_append, List.filter_cons, h1]
  simp [h2]
theorem del_here {k : ByteArray} {L R : List Ent} {e : Ent} (h : e.key = k) (hs : Srt (L ++ e :: R)) : delL k (L ++ e :: R) = L ++ R := by
  obtain ⟨_, _, h3, h4, _⟩ := srt_mid.1 hs
  have h1 : delL k L = L := del_none fun y hy c => by have := h3 y hy; rw [c, h, lt_irrefl] at this; cases this
  have h1' : delL k R = R := del_none fun y hy c => by have := h4 y hy; rw [c, h, lt_irrefl] at this; cases this
  unfold delL at *
  rw [List.filter_append, List.filter_cons, h1, h1']
  simp [h]
theorem del_first {R : List Ent} {e : Ent} (hs : Srt (e :: R)) : delL e.key (e :: R) = R := by
  have := del_here (L := []) (R := R) (e := e) rfl hs
  simpa using this
theorem get_none {k : ByteArray} {l : List Ent} (h : ∀ y ∈ l, y.key ≠ k) : getL k l = none := by
  unfold getL
  rw [List.find?_eq_none]
  intro y hy
  simp [h y hy]
theorem get_left {k : ByteArray} {L R : List Ent} {e : Ent} (h : lt k e.key = true) (hs : Srt (L ++ e :: R)) : getL k (L ++ e :: R) = getL k L := by
  obtain ⟨_, _, _, h4, _⟩ := srt_mid.1 hs
  have h1 : getL k (e :: R) = none := get_none fun y hy c => by
    rcases List.mem_cons.1 hy with rfl | hy
    · rw [c, lt_irrefl] at h; cases h
    · have := lt_trans h (h4 y hy); rw [c, lt_irrefl] at this; cases this
  unfold getL at *
  rw [List.find?_append, h1]
  simp
theorem get_right {k : ByteArray} {L R : List Ent} {e : Ent} (h : lt e.key k = true) (hs : Srt (L ++ e :: R)) : getL k (L ++ e :: R) = getL k R := by
  obtain ⟨_, _, h3, _, _⟩ := srt_mid.1 hs
  have h1 : getL k L = none := get_none fun y hy c => by have := lt_trans (h3 y hy) h; rw [c, lt_irrefl] at this; cases this
  have h2 : e.key ≠ k := fun c => by rw [c, lt_irrefl] at h; cases h
  unfold getL at *
  rw [List.find?_append, h1, List.find?_cons]
  simp [h2]
theorem get_here {k : ByteArray} {L R : List Ent} {e : Ent} (h : e.key = k) (hs : Srt (L ++ e :: R)) : getL k (L ++ e :: R) = some e := by
  obtain ⟨_, _, h3, _, _⟩ := srt_mid.1 hs
  have h1 : getL k L = none := get_none fun y hy c => by have := h3 y hy; rw [c, h, lt_irrefl] at this; cases this
  unfold getL at *
  rw [List.find?_append, h1, List.find?_cons]
  simp [h]
theorem get_some {k : ByteArray} {l : List Ent} {e : Ent} (h : getL k l = some e) : e ∈ l ∧ e.key = k := by
  unfold getL at h
  exact ⟨List.mem_of_find?_eq_some h, by simpa using List.find?_some h⟩
theorem ins_length {x : Ent} : ∀ {l : List Ent}, Srt l → (insL x l).length = l.length + (if (getL x.key l).isSome then 0 else 1)
  | [], _ => by simp [insL, getL]
  | y :: l, h => by
    have h' := List.pairwise_cons.1 h
    unfold insL
    split
    · rename_i c
      have : getL x.key (y :: l) = none := get_none fun z hz e => by
        rcases List.mem_cons.1 hz with rfl | hz
        · rw [e, lt_irrefl] at c; cases c
        · have := lt_trans c (h'.1 z hz); rw [e, lt_irrefl] at this; cases this
      rw [this]; simp
    · split
      · rename_i c
        have : getL x.key (y :: l) = getL x.key l := get_right (L := []) c h
        rw [this, List.length_cons, ins_length h'.2, List.length_cons]
        omega
      · rename_i c d
        have e : x.key = y.key := lt_tri (by simpa using c) (by simpa using d)
        have : getL x.key (y :: l) = some y := get_here (L := []) e.symm h
        rw [this]; simp
theorem del_length {k : ByteArray} : ∀ {l : List Ent}, Srt l → (delL k l).length + (if (getL k l).isSome then 1 else 0) = l.length
  | [], _ => by simp [delL, getL]
  | y :: l, h => by
    have h' := List.pairwise_cons.1 h
    by_cases c : y.key = k
    · subst c
      have : getL y.key (y :: l) = some y := get_here (L := []) rfl h
      rw [del_first h, this]
      simp
    · have ih := del_length (k := k) h'.2
      unfold delL getL at *
      simp [List.filter_cons, List.find?_cons, c]
      simp at ih
      omega
theorem get_ins_same {x : Ent} : ∀ {l : List Ent}, Srt l → getL x.key (insL x l) = some x
  | [], _ => by simp [insL, getL]
  | y :: l, h => by
    have h' := List.pairwise_cons.1 h
    unfold insL
    split
    · simp [getL]
    · split
      · rename_i c
        have ih := get_ins_same (x := x) h'.2
        have := lt_ne c
        unfold getL at *
        simp [List.find?_cons, this, ih]
      · simp [getL]
theorem get_ins_other {x : Ent} {k : ByteArray} (hk : k ≠ x.key) : ∀ {l : List Ent}, Srt l → getL k (insL x l) = getL k l
  | [], _ => by simp [insL, getL]; exact fun h => hk h.symm
  | y :: l, h => by
    have h' := List.pairwise_cons.1 h
    have hx : ¬ x.key = k := fun h => hk h.symm
    unfold insL
    split
    · simp [getL, List.find?_cons, hx]
    · split
      · rename_i c
        have ih := get_ins_other hk h'.2
        unfold getL at *
        simp [List.find?_cons, ih]
      · rename_i c d
        have e : x.key = y.key := lt_tri (by simpa using c) (by simpa using d)
        have hy : ¬ y.key = k := e ▸ hx
        simp [getL, List.find?_cons, hx, hy]
theorem get_del_same {k : ByteArray} {l : List Ent} : getL k (delL k l) = none := get_none fun y hy => by
  unfold delL at hy
  rw [List.mem_filter] at hy
  simpa using hy.2
theorem get_del_other {k j : ByteArray} (h : j ≠ k) : ∀ {l : List Ent}, getL j (delL k l) = getL j l
  | [] => rfl
  | y :: l => by
    have ih := get_del_other h (l := l)
    unfold getL delL at *
    by_cases c : y.key = k
    · have : ¬ y.key = j := fun e => h (e ▸ c)
      rw [List.filter_cons_of_neg (by simp [c]), List.find?_cons_of_neg (by simpa using this)]
      exact ih
    · simp [List.filter_cons, List.find?_cons, c, ih]
inductive AT where
  | nil
  | node (b : Nat) (e : Ent) (l r : AT) (h : Int)
namespace AT
def adr : AT → Option Addr
  | nil => none
  | node b _ _ _ _ => some ⟨b, 0, none⟩
def high : AT → Int
  | nil => 0
  | node _ _ _ _ h => h
def row : AT → List Ent
  | nil => []
  | node _ e l r _ => row l ++ e :: row r
def Tall : AT → Prop
  | nil => True
  | node _ _ l r h => h = 1 + max l.high r.high ∧ Tall l ∧ Tall r
theorem tall_bd : ∀ {t : AT}, t.Tall → 0 ≤ t.high ∧ t.high ≤ t.row.length
  | nil, _ => by simp [high, row]
  | node b e l r h, ht => by
    obtain ⟨h1, h2, h3⟩ := ht
    have a := tall_bd h2
    have c := tall_bd h3
    simp only [high, row, List.length_append, List.length_cons]
    omega
theorem tall_node {t : AT} (ht : t.Tall) (h : 0 < t.high) : ∃ b e l r, t = node b e l r (1 + max l.high r.high) ∧ l.Tall ∧ r.Tall := by
  cases t with
  | nil => simp [high] at h
  | node b e l r k => obtain ⟨rfl, h2, h3⟩ := ht; exact ⟨b, e, l, r, rfl, h2, h3⟩
end AT
end Go.Proofs.Ytobanhbjkomieaa.TA
end
section
namespace Go.Proofs.Ytobanhbjkomieaa.TA
open Go
set_option linter.unusedSimpArgs false
set_option linter.unusedVariables false
structure Evt where
  rev : Int
  del : Bool
  key : ByteArray
  val : ByteArray
deriving DecidableEq
structure Cnd where
  key : ByteArray
  mod : Int
deriving DecidableEq
structure Opn where
  del : Bool
  key : ByteArray
  val : ByteArray
deriving DecidableEq
structure Md where
  row : List Ent
  rev : Int
  low : Int
  hap : List Evt
def Md.new : Md := ⟨[], 0, 0, []⟩
def noEnt : Ent := ⟨⟨#[]⟩, ⟨#[]⟩, 0, 0⟩
def getD (k : ByteArray) (l : List Ent) : Ent := (getL k l).getD noEnt
def madeOf (rev : Int) (k : ByteArray) (l : List Ent) : Int := match getL k l with | some x => x.made | none => rev
def opL (rev : Int) (o : Opn) (l : List Ent) : List Ent × List Evt :=
  if o.del then (if (getL o.key l).isSome then (delL o.key l, [⟨rev, true, o.key, o.val⟩]) else (l, []))
  else (insL ⟨o.key, o.val, madeOf rev o.key l, rev⟩ l, [⟨rev, false, o.key, o.val⟩])
def opsL (rev : Int) : List Opn → List Ent → List Ent × List Evt
  | [], l => (l, [])
  | o :: os, l => ((opsL rev os (opL rev o l).1).1, (opL rev o l).2 ++ (opsL rev os (opL rev o l).1).2)
def holdsL (cs : List Cnd) (l : List Ent) : Bool := cs.all fun c => decide ((getD c.key l).mod = c.mod)
def doM (may : Bool) (cs : List Cnd) (os : List Opn) (m : Md) : Md × List Evt × Bool × Int :=
  if !may then (m, [], false, 4)
  else if !holdsL cs m.row then (m, [], false, 0)
  else if os = [] then (m, [], true, 0)
  else if m.rev = 1099511627776 then (m, [], false, 40)
  else (⟨(opsL (m.rev + 1) os m.row).1, m.rev + 1, m.low, m.hap ++ (opsL (m.rev + 1) os m.row).2⟩, (opsL (m.rev + 1) os m.row).2, true, 0)
structure Ok (m : Md) : Prop where
  srt : Srt m.row
  lo : 0 ≤ m.low ∧ m.low ≤ m.rev ∧ m.rev ≤ 1099511627776
  made : ∀ x ∈ m.row, 1 ≤ x.made ∧ x.made ≤ x.mod ∧ x.mod ≤ m.rev
  hap : ∀ x ∈ m.hap, m.low < x.rev ∧ x.rev ≤ m.rev
  ris : m.hap.Pairwise fun a b => a.rev ≤ b.rev
theorem ok_new : Ok Md.new := ⟨List.Pairwise.nil, by simp [Md.new], by simp [Md.new], by simp [Md.new], List.Pairwise.nil⟩
theorem opL_srt {rev : Int} {o : Opn} {l : List Ent} (h : Srt l) : Srt (opL rev o l).1 := by
  unfold opL
  split
  · split
    · exact del_srt h
    · exact h
  · exact ins_srt h
theorem opsL_srt {rev : Int} : ∀ {os : List Opn} {l : List Ent}, Srt l → Srt (opsL rev os l).1
  | [], _, h => h
  | _ :: os, _, h => opsL_srt (os := os) (opL_srt h)
theorem opL_evt {rev : Int} {o : Opn} {l : List Ent} : ∀ x ∈ (opL rev o l).2, x.rev = rev := by
  unfold opL
  split
  · split <;> simp
  · simp
theorem opsL_evt {rev : Int} : ∀ {os : List Opn} {l : List Ent}, ∀ x ∈ (opsL rev os l).2, x.rev = rev
  | [], _, x, h => by simp [opsL] at h
  | o :: os, l, x, h => by
    simp only [opsL, List.mem_append] at h
    rcases h with h | h
    · exact opL_evt x h
    · exact opsL_evt x h
def Made (rev : Int) (l : List Ent) : Prop := ∀ x ∈ l, 1 ≤ x.made ∧ x.made ≤ x.mod ∧ x.mod ≤ rev
theorem del_mem {k : ByteArray} {l : List Ent} {x : Ent} (h : x ∈ delL k l) : x ∈ l := by
  unfold delL at h; exact (List.mem_filter.1 h).1
theorem opL_made {rev : Int} (h1 : 1 ≤ rev) {o : Opn} {l : List Ent} (h : Made rev l) : Made rev (opL rev o l).1 := by
  unfold opL
  split
  · split
    · exact fun x hx => h x (del_mem hx)
    · exact h
  · intro x hx
    rcases ins_mem hx with rfl | hx
    · unfold madeOf
      cases hg : getL o.key l with
      | none => simp; omega
      | some y =>
        have := h y (get_some hg).1
        simp; omega
    · exact h x hx
theorem opsL_made {rev : Int} (h1 : 1 ≤ rev) : ∀ {os : List Opn} {l : List Ent}, Made rev l → Made rev (opsL rev os l).1
  | [], _, h => h
  | _ :: os, _, h => opsL_made h1 (os := os) (opL_made h1 h)
theorem made_mono {r s : Int} {l : List Ent} (h : Made r l) (hrs : r ≤ s) : Made s l := fun x hx => by have := h x hx; omega
theorem pw_all {α : Type} {R : α → α → Prop} : ∀ {l : List α}, (∀ a ∈ l, ∀ b ∈ l, R a b) → l.Pairwise R
  | [], _ => List.Pairwise.nil
  | x :: l, h => List.pairwise_cons.2 ⟨fun y hy => h x (by simp) y (by simp [hy]), pw_all fun a ha b hb => h a (by simp [ha]) b (by simp [hb])⟩
theorem ok_do {m : Md} (h : Ok m) (may : Bool) (cs : List Cnd) (os : List Opn) : Ok (doM may cs os m).1 := by
  have h0 := h.lo
  unfold doM
  split
  · exact h
  · split
    · exact h
    · split
      · exact h
      · split
        · exact h
        · refine ⟨opsL_srt h.srt, by simp only; omega, opsL_made (by omega) (made_mono h.made (by omega)), ?_, ?_⟩
          · intro x hx
            simp only [List.mem_append] at hx
            simp only
            rcases hx with hx | hx
            · have := h.hap x hx; omega
            · have := opsL_evt x hx; omega
          · simp only
            rw [List.pairwise_append]
            refine ⟨h.ris, ?_, fun a ha b hb => ?_⟩
            · exact pw_all fun a ha b hb => by rw [opsL_evt a ha, opsL_evt b hb]; exact Int.le_refl _
            · have := h.hap a ha; rw [opsL_evt b hb]; omega
def cutM (n : Int) (m : Md) : Md × Int := if n < 0 ∨ m.rev < n then (m, 1) else (⟨m.row, m.rev, max m.low n, m.hap.filter fun x => decide (max m.low n < x.rev)⟩, 0)
theorem ok_cut {m : Md} (h : Ok m) (n : Int) : Ok (cutM n m).1 := by
  have h0 := h.lo
  unfold cutM
  split
  · exact h
  · refine ⟨h.srt, by simp only; omega, h.made, ?_, List.Pairwise.filter _ h.ris⟩
    intro x hx
    simp only [List.mem_filter, decide_eq_true_eq] at hx
    have := h.hap x hx.1
    simp only; omega
theorem cut_drop {n : Int} : ∀ {l : List Evt}, (l.Pairwise fun a b => a.rev ≤ b.rev) → l.filter (fun x => decide (n < x.rev)) = l.drop ((l.findIdx? fun x => decide (n < x.rev)).getD l.length)
  | [], _ => rfl
  | x :: l, h => by
    have h' := List.pairwise_cons.1 h
    by_cases c : n < x.rev
    · have : ∀ y ∈ l, n < y.rev := fun y hy => Int.lt_of_lt_of_le c (h'.1 y hy)
      simp [List.findIdx?_cons, c]
      exact this
    · have ih := cut_drop (n := n) h'.2
      simp only [List.filter_cons, List.findIdx?_cons, c, decide_false, Bool.false_eq_true, if_false, ih]
      cases l.findIdx? (fun x => decide (n < x.rev)) <;> simp
def sinceL (p : ByteArray) (n : Int) (l : List Evt) : List Evt := l.filter fun x => decide (n ≤ x.rev) && p.data.toList.isPrefixOf x.key.data.toList
def sinceM (pre : Bool) (p : ByteArray) (n : Int) (m : Md) : List Evt × Int :=
  if !pre then ([], 4) else if n < 1 ∨ m.rev + 1 < n then ([], 1) else if n ≤ m.low then ([], 52) else (sinceL p n m.hap, 0)
def listL (p : ByteArray) (l : List Ent) : List Ent := l.filter fun x => p.data.toList.isPrefixOf x.key.data.toList
end Go.Proofs.Ytobanhbjkomieaa.TA
end
section
namespace Go.Proofs.Ytobanhbjkomieaa.TA
open Go
set_option linter.unusedSimpArgs false
set_option linter.unusedVariables false
theorem opL_get_same {rev : Int} {o : Opn} {l : List Ent} (h : Srt l) : getL o.key (opL rev o l).1 = if o.del then none else some ⟨o.key, o.val, madeOf rev o.key l, rev⟩ := by
  unfold opL
  cases hd : o.del
  · simp only [Bool.false_eq_true, if_false]
    exact get_ins_same (x := ⟨o.key, o.val, madeOf rev o.key l, rev⟩) h
  · simp only [if_true]
    split
    · exact get_del_same
    · rename_i c
      simpa using c
theorem opL_get_other {rev : Int} {o : Opn} {l : List Ent} {k : ByteArray} (hk : k ≠ o.key) (h : Srt l) : getL k (opL rev o l).1 = getL k l := by
  unfold opL
  split
  · split
    · exact get_del_other hk
    · rfl
  · exact get_ins_other hk h
theorem opL_length {rev : Int} {o : Opn} {l : List Ent} (h : Srt l) : ((opL rev o l).1.length : Int) = l.length + (if o.del then (if (getL o.key l).isSome then -1 else 0) else if (getL o.key l).isSome then 0 else 1) := by
  unfold opL
  split
  · split
    · rename_i c
      have := del_length (k := o.key) h
      rw [if_pos c] at this
      simp only; omega
    · simp
  · have := ins_length (x := ⟨o.key, o.val, madeOf rev o.key l, rev⟩) h
    simp only at this ⊢
    rw [this]
    split <;> simp
theorem opsL_get_other {rev : Int} {k : ByteArray} : ∀ {os : List Opn} {l : List Ent}, (∀ o ∈ os, k ≠ o.key) → Srt l → getL k (opsL rev os l).1 = getL k l
  | [], _, _, _ => rfl
  | o :: os, l, hk, h => by
    simp only [opsL]
    rw [opsL_get_other (os := os) (fun p hp => hk p (by simp [hp])) (opL_srt h), opL_get_other (hk o (by simp)) h]
def Apart (os : List Opn) : Prop := os.Pairwise fun a b => a.key ≠ b.key
theorem opsL_get_same {rev : Int} : ∀ {os : List Opn} {l : List Ent}, Apart os → Srt l → ∀ o ∈ os, getL o.key (opsL rev os l).1 = if o.del then none else some ⟨o.key, o.val, madeOf rev o.key l, rev⟩
  | [], _, _, _, _, ho => by simp at ho
  | p :: os, l, ha, h, o, ho => by
    have ha' := List.pairwise_cons.1 ha
    simp only [opsL]
    rcases List.mem_cons.1 ho with rfl | ho
    · rw [opsL_get_other (os := os) (fun q hq => ha'.1 q hq) (opL_srt h), opL_get_same h]
    · have hne : o.key ≠ p.key := fun e => ha'.1 o ho e.symm
      rw [opsL_get_same ha'.2 (opL_srt h) o ho]
      simp only [madeOf, opL_get_other hne h]
def cntO (l : List Ent) (n : Int) (o : Opn) : Int := n + (if o.del then (if (getL o.key l).isSome then -1 else 0) else if (getL o.key l).isSome then 0 else 1)
theorem foldl_congr_mem {α β : Type} {f g : β → α → β} : ∀ {l : List α} (b : β), (∀ b, ∀ a ∈ l, f b a = g b a) → l.foldl f b = l.foldl g b
  | [], _, _ => rfl
  | a :: l, b, h => by
    simp only [List.foldl_cons]
    rw [h b a (by simp)]
    exact foldl_congr_mem _ (fun b x hx => h b x (by simp [hx]))
theorem opsL_length {rev : Int} : ∀ {os : List Opn} {l : List Ent}, Apart os → Srt l → ((opsL rev os l).1.length : Int) = os.foldl (cntO l) l.length
  | [], _, _, _ => rfl
  | p :: os, l, ha, h => by
    have ha' := List.pairwise_cons.1 ha
    simp only [opsL, List.foldl_cons]
    rw [opsL_length ha'.2 (opL_srt h), opL_length h]
    refine foldl_congr_mem _ (fun b o ho => ?_)
    have hne : o.key ≠ p.key := fun e => ha'.1 o ho e.symm
    simp only [cntO, opL_get_other hne h]
def again1 (l : List Ent) (x : Evt) : List Ent := if x.del then delL x.key l else insL ⟨x.key, x.val, madeOf x.rev x.key l, x.rev⟩ l
theorem opL_again {rev : Int} {o : Opn} {l : List Ent} : (opL rev o l).2.foldl again1 l = (opL rev o l).1 := by
  unfold opL
  cases hd : o.del
  · simp [again1]
  · simp only [if_true]
    split
    · simp [again1]
    · rfl
theorem opsL_again {rev : Int} : ∀ {os : List Opn} {l : List Ent}, (opsL rev os l).2.foldl again1 l = (opsL rev os l).1
  | [], _ => rfl
  | o :: os, l => by
    simp only [opsL, List.foldl_append]
    rw [opL_again, opsL_again]
def putLoop (x : Ent) : Bool → List Ent → List Ent
  | done, [] => if done then [] else [x]
  | done, y :: l =>
    if !done && !lt y.key x.key then x :: (if y.key = x.key then putLoop x true l else y :: putLoop x true l)
    else if y.key = x.key then putLoop x done l else y :: putLoop x done l
theorem putLoop_done {x : Ent} : ∀ l : List Ent, putLoop x true l = delL x.key l
  | [] => rfl
  | y :: l => by
    simp only [putLoop, Bool.not_true, Bool.false_and, Bool.false_eq_true, if_false, putLoop_done l]
    unfold delL
    by_cases c : y.key = x.key <;> simp [List.filter_cons, c]
theorem putLoop_ins {x : Ent} : ∀ {l : List Ent}, Srt l → putLoop x false l = insL x l
  | [], _ => rfl
  | y :: l, h => by
    have h' := List.pairwise_cons.1 h
    simp only [putLoop, Bool.not_false, Bool.true_and]
    cases c : lt y.key x.key
    · simp only [Bool.not_false, if_true, putLoop_done]
      by_cases e : y.key = x.key
      · rw [if_pos e]
        have h1 : lt x.key y.key = false := by rw [e, lt_irrefl]
        have h2 : lt y.key x.key = false := c
        have : delL x.key l = l := del_none fun z hz ez => by have := h'.1 z hz; rw [e, ez, lt_irrefl] at this; cases this
        simp only [insL, h1, h2, Bool.false_eq_true, if_false, this]
      · rw [if_neg e]
        have h1 : lt x.key y.key = true := by
          cases d : lt x.key y.key
          · exact absurd (lt_tri c d) e
          · rfl
        have : delL x.key l = l := del_none fun z hz ez => by have := lt_trans h1 (h'.1 z hz); rw [ez, lt_irrefl] at this; cases this
        simp only [insL, h1, if_true, this]
    · have e := lt_ne c
      have h1 := lt_asymm c
      simp only [Bool.not_true, Bool.false_eq_true, if_false, if_neg e, insL, h1, c, if_true, putLoop_ins h'.2]
structure Tx where
  cs : List Cnd
  os : List Opn
def run (may : Tx → Bool) : List Tx → Md → Md
  | [], m => m
  | x :: l, m => run may l (doM (may x) x.cs x.os m).1
def evsOf (may : Tx → Bool) : List Tx → Md → List Evt
  | [], _ => []
  | x :: l, m => (doM (may x) x.cs x.os m).2.1 ++ evsOf may l (doM (may x) x.cs x.os m).1
theorem run_snoc (may : Tx → Bool) (x : Tx) : ∀ (l : List Tx) (m : Md), run may (l ++ [x]) m = (doM (may x) x.cs x.os (run may l m)).1
  | [], _ => rfl
  | _ :: l, m => run_snoc may x l _
theorem ok_run (may : Tx → Bool) : ∀ (l : List Tx) {m : Md}, Ok m → Ok (run may l m)
  | [], _, h => h
  | x :: l, _, h => ok_run may l (ok_do h _ _ _)
theorem do_low (may : Bool) (cs : List Cnd) (os : List Opn) (m : Md) : (doM may cs os m).1.low = m.low := by
  unfold doM
  repeat' split
  all_goals rfl
theorem do_rev (may : Bool) (cs : List Cnd) (os : List Opn) (m : Md) : m.rev ≤ (doM may cs os m).1.rev ∧ (doM may cs os m).1.rev ≤ m.rev + 1 := by
  unfold doM
  repeat' split
  all_goals (simp only; omega)
theorem do_hap (may : Bool) (cs : List Cnd) (os : List Opn) (m : Md) : (doM may cs os m).1.hap = m.hap ++ (doM may cs os m).2.1 := by
  unfold doM
  repeat' split
  all_goals simp
theorem do_evs (may : Bool) (cs : List Cnd) (os : List Opn) (m : Md) : ∀ x ∈ (doM may cs os m).2.1, m.rev < x.rev ∧ x.rev = (doM may cs os m).1.rev := by
  unfold doM
  repeat' split
  all_goals try simp
  intro x hx
  have := opsL_evt x hx
  omega
theorem do_again (may : Bool) (cs : List Cnd) (os : List Opn) (m : Md) : (doM may cs os m).2.1.foldl again1 m.row = (doM may cs os m).1.row := by
  unfold doM
  repeat' split
  all_goals try rfl
  exact opsL_again
theorem run_low (may : Tx → Bool) : ∀ (l : List Tx) (m : Md), (run may l m).low = m.low
  | [], _ => rfl
  | x :: l, m => (run_low may l _).trans (do_low _ _ _ _)
theorem run_rev (may : Tx → Bool) : ∀ (l : List Tx) (m : Md), m.rev ≤ (run may l m).rev ∧ (run may l m).rev ≤ m.rev + l.length
  | [], m => by simp [run]
  | x :: l, m => by
    have h1 := run_rev may l (doM (may x) x.cs x.os m).1
    have h2 := do_rev (may x) x.cs x.os m
    simp only [run, List.length_cons]
    omega
theorem run_hap (may : Tx → Bool) : ∀ (l : List Tx) (m : Md), (run may l m).hap = m.hap ++ evsOf may l m
  | [], m => by simp [run, evsOf]
  | x :: l, m => by
    simp only [run, evsOf]
    rw [run_hap may l, do_hap, List.append_assoc]
theorem evs_rev (may : Tx → Bool) : ∀ (l : List Tx) (m : Md), ∀ x ∈ evsOf may l m, m.rev < x.rev ∧ x.rev ≤ (run may l m).rev
  | [], _, x, hx => by simp [evsOf] at hx
  | y :: l, m, x, hx => by
    have h1 := run_rev may l (doM (may y) y.cs y.os m).1
    have h2 := do_rev (may y) y.cs y.os m
    simp only [evsOf, List.mem_append] at hx
    simp only [run]
    rcases hx with hx | hx
    · have := do_evs (may y) y.cs y.os m x hx
      omega
    · have := evs_rev may l _ x hx
      omega
theorem evs_ris (may : Tx → Bool) : ∀ (l : List Tx) (m : Md), (evsOf may l m).Pairwise fun a b => a.rev ≤ b.rev
  | [], _ => List.Pairwise.nil
  | y :: l, m => by
    simp only [evsOf]
    rw [List.pairwise_append]
    refine ⟨pw_all fun a ha b hb => ?_, evs_ris may l _, fun a ha b hb => ?_⟩
    · rw [(do_evs (may y) y.cs y.os m a ha).2, (do_evs (may y) y.cs y.os m b hb).2]; exact Int.le_refl _
    · have h1 := (do_evs (may y) y.cs y.os m a ha).2
      have h2 := (evs_rev may l _ b hb).1
      omega
theorem evs_again (may : Tx → Bool) : ∀ (l : List Tx) (m : Md), (evsOf may l m).foldl again1 m.row = (run may l m).row
  | [], _ => rfl
  | y :: l, m => by
    simp only [evsOf, run, List.foldl_append]
    rw [do_again, evs_again may l]
theorem since_split {n : Int} {p : ByteArray} (hp : p.data.toList = []) {a b : List Evt} (ha : ∀ x ∈ a, x.rev < n) (hb : ∀ x ∈ b, n ≤ x.rev) : sinceL p n (a ++ b) = b := by
  unfold sinceL
  rw [List.filter_append, List.filter_eq_nil_iff.2, List.filter_eq_self.2]
  · rfl
  · intro x hx
    simp [hb x hx, hp]
  · intro x hx
    have := ha x hx
    simp; omega
theorem run_since (may : Tx → Bool) (l : List Tx) {m : Md} (h : Ok m) {p : ByteArray} (hp : p.data.toList = []) : sinceL p (m.rev + 1) (run may l m).hap = evsOf may l m := by
  rw [run_hap]
  refine since_split hp (fun x hx => ?_) (fun x hx => ?_)
  · have := h.hap x hx; omega
  · have := evs_rev may l m x hx; omega
end Go.Proofs.Ytobanhbjkomieaa.TA
end
