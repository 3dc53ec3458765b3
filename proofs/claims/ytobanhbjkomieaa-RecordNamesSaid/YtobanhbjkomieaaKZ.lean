import Derived.Test.YtobanhbjkomieaaPAllx
import Derived.Lib.Strings
import Derived.Lib.Bytealg
namespace Go.Proofs.Ytobanhbjkomieaa.KP
open Go.RowKit Go.Proofs.Ytobanhbjkomieaa.PAll Go.Proofs.YtobanhbjkomieaaW.PrintWords Go.Proofs.YtobanhbjkomieaaW.PrintLast

/-! ### bytes -/
theorem of_ev (c : Int) : Ev (fun _ => keys_of.f c) (kindOf c) := Ev.now _

theorem wrap_succ {i : Int} (h0 : 0 ≤ i) (h : i ≤ 140737488355328) : wrap64 (i + 1) = i + 1 := by unfold wrap64; omega

/-- All bytes are at least that. -/
def allK (least : Int) (l : List UInt8) : Bool := l.all fun b => decide (least ≤ kindOf (b.toNat : Int))
theorem bt_mk (l : List UInt8) (i : Nat) (h : i < l.length) : bt ⟨l.toArray⟩ (i : Int) = ((l[i]'h).toNat : Int) := by
  unfold bt
  have : ((i : Int).toNat) < (⟨l.toArray⟩ : ByteArray).size := by show _ < l.toArray.size; simpa using h
  rw [dif_pos this]
  rfl
theorem size_mk (l : List UInt8) : (⟨l.toArray⟩ : ByteArray).size = l.length := by show l.toArray.size = _; simp
theorem all_l0 (l : List UInt8) (hl : l.length ≤ 140737488351232) (least most : Int) : ∀ (d i : Nat), i + d = l.length →
    Ev (fun k => keys_all.l0 k ⟨l.toArray⟩ least most (l.length : Int) (i : Int)) (allK least (l.drop i) && decide ((l.length : Int) ≤ most))
  | 0, i, h => by
    refine Ev.step (f := fun _ => some (allK least (l.drop i) && decide ((l.length : Int) ≤ most))) (fun k => ?_) (Ev.now _)
    simp only [keys_all.l0]
    rw [if_neg (by omega), List.drop_eq_nil_of_le (by omega), size_mk]
    simp [allK]
  | d + 1, i, h => by
    have hi : i < l.length := by omega
    have hd : l.drop i = l[i] :: l.drop (i + 1) := List.drop_eq_getElem_cons hi
    have ih := all_l0 l hl least most d (i + 1) (by omega)
    refine Ev.step (f := fun k => (keys_of.f (bt ⟨l.toArray⟩ (i : Int))).bind fun t => if t < least then some false else keys_all.l0 k ⟨l.toArray⟩ least most (l.length : Int) (wrap64 ((i : Int) + 1))) (fun k => ?_) ?_
    · simp only [keys_all.l0]
      rw [if_pos (by omega), if_pos (by omega), if_pos (by rw [size_mk]; omega)]
    · refine Ev.bind (of_ev _) ?_
      rw [bt_mk l i hi, wrap_succ (by omega) (by omega), hd]
      by_cases hc : kindOf (l[i].toNat : Int) < least
      · simp only [if_pos hc, allK, List.all_cons]
        rw [decide_eq_false (by omega)]
        exact Ev.now _
      · simp only [if_neg hc, allK, List.all_cons]
        rw [decide_eq_true (by omega), Bool.true_and]
        exact ih
theorem all_ev (l : List UInt8) (hl : l.length ≤ 140737488351232) (least most : Int) : Ev (fun k => keys_all.f k ⟨l.toArray⟩ least most) (allK least l && decide ((l.length : Int) ≤ most)) := by
  have h := all_l0 l hl least most l.length 0 (by omega)
  refine Ev.congr (fun k => ?_) h
  simp only [keys_all.f, size_mk]
  rfl

/-! ### names, keys, prefixes -/
def isName (l : List UInt8) : Bool := !l.isEmpty && (allK 2 l && decide (l.length ≤ 24))
def isKey (l : List UInt8) : Bool := !l.isEmpty && (allK 1 l && decide (l.length ≤ 64))
def isPrefix (l : List UInt8) : Bool := allK 1 l && decide (l.length ≤ 64)
theorem dec_cast (n m : Nat) : decide ((n : Int) ≤ (m : Int)) = decide (n ≤ m) := by
  rw [Bool.eq_iff_iff]; simp
theorem toList_mk (l : List UInt8) : (⟨l.toArray⟩ : ByteArray).toList = l := by rw [Lib.toList_data]
theorem name_ev (l : List UInt8) (hl : l.length ≤ 140737488351232) : Ev (fun k => keys_Name.f k ⟨l.toArray⟩) (isName l) := by
  unfold isName
  by_cases h : l = []
  · subst h
    refine Ev.congr (f := fun _ => some false) (fun k => ?_) (Ev.now _)
    simp only [keys_Name.f, toList_mk, if_true]
  · refine Ev.congr (f := fun k => (keys_all.f k ⟨l.toArray⟩ 2 24).bind fun t => some t) (fun k => ?_) ?_
    · simp only [keys_Name.f, toList_mk]
      rw [if_neg h]
    · have h1 := all_ev l hl 2 24
      rw [show (24 : Int) = ((24 : Nat) : Int) from rfl, dec_cast] at h1
      have : l.isEmpty = false := by cases l <;> simp_all
      rw [this]
      exact Ev.bind h1 (Ev.now _)
theorem key_ev (l : List UInt8) (hl : l.length ≤ 140737488351232) : Ev (fun k => keys_Key.f k ⟨l.toArray⟩) (isKey l) := by
  unfold isKey
  by_cases h : l = []
  · subst h
    refine Ev.congr (f := fun _ => some false) (fun k => ?_) (Ev.now _)
    simp only [keys_Key.f, toList_mk, if_true]
  · refine Ev.congr (f := fun k => (keys_all.f k ⟨l.toArray⟩ 1 64).bind fun t => some t) (fun k => ?_) ?_
    · simp only [keys_Key.f, toList_mk]
      rw [if_neg h]
    · have h1 := all_ev l hl 1 64
      rw [show (64 : Int) = ((64 : Nat) : Int) from rfl, dec_cast] at h1
      have : l.isEmpty = false := by cases l <;> simp_all
      rw [this]
      exact Ev.bind h1 (Ev.now _)
theorem prefix_ev (l : List UInt8) (hl : l.length ≤ 140737488351232) : Ev (fun k => keys_Prefix.f k ⟨l.toArray⟩) (isPrefix l) := by
  have h1 := all_ev l hl 1 64
  rw [show (64 : Int) = ((64 : Nat) : Int) from rfl, dec_cast] at h1
  exact Ev.bind h1 (Ev.now _)

/-! ### what is made of names -/
def clustersK (t : List UInt8) : List UInt8 := if isName t then [99, 47] ++ t ++ [47] else []
def clusterK (t c : List UInt8) : List UInt8 := if isName t && isName c then [99, 47] ++ t ++ [47] ++ c else []
def tenantK (t : List UInt8) : List UInt8 := if isName t then [116, 47] ++ t else []
theorem append_mk (a b : List UInt8) : (⟨a.toArray⟩ : ByteArray) ++ ⟨b.toArray⟩ = ⟨(a ++ b).toArray⟩ := by
  apply WideShapes.bytes_inj
  simp
theorem lit_mk1 (a : UInt8) : (⟨#[a]⟩ : ByteArray) = ⟨[a].toArray⟩ := rfl
theorem lit_mk2 (a b : UInt8) : (⟨#[a, b]⟩ : ByteArray) = ⟨[a, b].toArray⟩ := rfl
theorem lit_mk0 : (⟨#[]⟩ : ByteArray) = ⟨([] : List UInt8).toArray⟩ := rfl
theorem clusters_ev (t : List UInt8) (ht : t.length ≤ 140737488351232) : Ev (fun k => keys_Clusters.f k ⟨t.toArray⟩) ⟨(clustersK t).toArray⟩ := by
  refine Ev.bind (name_ev t ht) ?_
  unfold clustersK
  cases isName t
  · simpa using Ev.now _
  · simp only [if_true]
    rw [size_mk, if_pos (by omega), lit_mk2, lit_mk1, append_mk, append_mk]
    exact Ev.now _
theorem cluster_ev (t c : List UInt8) (ht : t.length ≤ 140737488351232) (hc : c.length ≤ 140737488351232) : Ev (fun k => keys_Cluster.f k ⟨t.toArray⟩ ⟨c.toArray⟩) ⟨(clusterK t c).toArray⟩ := by
  refine Ev.bind (name_ev t ht) ?_
  unfold clusterK
  cases h : isName t
  · simpa using Ev.now _
  · simp only [if_true, Bool.true_and]
    refine Ev.bind (name_ev c hc) ?_
    cases isName c
    · simpa using Ev.now _
    · simp only [if_true]
      refine Ev.bind (clusters_ev t ht) ?_
      unfold clustersK
      simp only [h, if_true]
      rw [size_mk, size_mk, if_pos (by simp; omega), append_mk]
      exact Ev.now _
theorem tenant_ev (t : List UInt8) (ht : t.length ≤ 140737488351232) : Ev (fun k => keys_Tenant.f k ⟨t.toArray⟩) ⟨(tenantK t).toArray⟩ := by
  refine Ev.bind (name_ev t ht) ?_
  unfold tenantK
  cases isName t
  · simpa using Ev.now _
  · simp only [if_true]
    rw [size_mk, if_pos (by omega), lit_mk2, append_mk]
    exact Ev.now _

/-! ### a text's begin -/
def beginsK (l p : List UInt8) : Bool := p.isPrefixOf l
theorem take_eq_prefix (l p : List UInt8) (h : p.length ≤ l.length) : (l.take p.length == p) = p.isPrefixOf l := by
  have := Lib.hasPrefix_of_take l p
  rw [decide_eq_true h, Bool.true_and] at this
  exact this
theorem hasPrefix_eq (l p : List UInt8) : stringslite_HasPrefix.f ⟨l.toArray⟩ ⟨p.toArray⟩ = some (beginsK l p) := by
  unfold stringslite_HasPrefix.f beginsK
  rw [size_mk, size_mk]
  by_cases h : p.length ≤ l.length
  · rw [if_pos (by omega), if_pos (by omega), if_pos (by omega), Lib.extract_toList, toList_mk]
    simp only [Int.toNat_natCast, List.drop_zero, Nat.sub_zero]
    rw [take_eq_prefix l p h]
  · rw [if_neg (by omega)]
    congr 1
    symm
    rw [Bool.eq_false_iff]
    intro hp
    exact h (List.isPrefixOf_iff_prefix.1 hp).length_le
theorem begins_eq (l p : List UInt8) : keys_Begins.f ⟨l.toArray⟩ ⟨p.toArray⟩ = some (beginsK l p) := by
  simp only [keys_Begins.f, strings_HasPrefix.f, hasPrefix_eq, Option.bind_some]
theorem cutPrefix_eq (l p : List UInt8) : strings_CutPrefix.f ⟨l.toArray⟩ ⟨p.toArray⟩ = some (if beginsK l p then (⟨(l.drop p.length).toArray⟩, true) else (⟨l.toArray⟩, false)) := by
  simp only [strings_CutPrefix.f, stringslite_CutPrefix.f, hasPrefix_eq, Option.bind_some]
  cases h : beginsK l p
  · simp
  · have hl : p.length ≤ l.length := (List.isPrefixOf_iff_prefix.1 h).length_le
    simp only [if_true, size_mk]
    rw [if_pos (by omega), if_pos (by omega)]
    simp only [Int.toNat_natCast, Option.bind_some, Lib.extract_eq]
    rw [List.take_of_length_le (by simp)]
/-! ### cut at '/' -/
/-- Up to the first '/', behind it; none: there is none. -/
def cutK : List UInt8 → Option (List UInt8 × List UInt8)
  | [] => none
  | b :: l => if b = 47 then some ([], l) else (cutK l).map fun x => (b :: x.1, x.2)
theorem index_cut (l : List UInt8) : match cutK l with
    | none => Lib.indexByte l 47 = -1
    | some (a, b) => Lib.indexByte l 47 = (a.length : Int) ∧ l = a ++ 47 :: b := by
  induction l with
  | nil => rfl
  | cons c l ih =>
    unfold cutK Lib.indexByte
    by_cases hc : c = 47
    · subst hc
      simp
    · have hc' : (c == 47) = false := by simpa using hc
      rw [if_neg hc, hc']
      cases h : cutK l with
      | none =>
        rw [h] at ih
        simp only [Option.map_none]
        simp [ih]
      | some x =>
        obtain ⟨a, b⟩ := x
        rw [h] at ih
        obtain ⟨h1, h2⟩ := ih
        simp only [Option.map_some, Bool.false_eq_true, if_false, List.length_cons, h1]
        have : ((a.length : Int) == -1) = false := by simp only [beq_eq_false_iff_ne]; omega
        rw [this]
        refine ⟨by simp, by rw [h2]; simp⟩
theorem cutK_spec {l a b : List UInt8} (h : cutK l = some (a, b)) : l = a ++ 47 :: b := by
  have := index_cut l
  rw [h] at this
  exact this.2
theorem cut_eq (l : List UInt8) (hl : l.length ≤ 140737488351232) : strings_Cut.f ⟨l.toArray⟩ ⟨#[47]⟩ = some (match cutK l with | some (a, b) => (⟨a.toArray⟩, ⟨b.toArray⟩, true) | none => (⟨l.toArray⟩, ⟨#[]⟩, false)) := by
  have hx := index_cut l
  simp only [strings_Cut.f, stringslite_Cut.f, stringslite_Index.f, if_true, Option.bind_some]
  cases h : cutK l with
  | none =>
    rw [h] at hx
    simp only at hx
    rw [hx, if_neg (by decide)]
    rfl
  | some x =>
    obtain ⟨a, b⟩ := x
    rw [h] at hx
    obtain ⟨h1, h2⟩ := hx
    have hlen : l.length = a.length + 1 + b.length := by rw [h2]; simp; omega
    have h47 : ((⟨#[47]⟩ : ByteArray).size : Int) = 1 := rfl
    rw [h1, h47, wrap_succ (by omega) (by omega), size_mk, if_pos (by omega), if_pos (by omega), if_pos (by omega), if_pos (by omega), if_pos (by omega)]
    simp only [Option.bind_some, Lib.extract_eq]
    have e1 : ((a.length : Int) + 1).toNat = a.length + 1 := by omega
    rw [e1]
    simp only [Int.toNat_natCast, List.drop_zero, Nat.sub_zero]
    have e2 : l.take a.length = a := by rw [h2]; simp
    have e3 : (l.drop (a.length + 1)).take (l.length - (a.length + 1)) = b := by
      rw [List.take_of_length_le (by simp), h2, List.drop_append]
      simp
    rw [e2, e3]
/-! ### the names of a key -/
def readK (l : List UInt8) : List UInt8 × List UInt8 × Bool :=
  if beginsK l [116, 47] && isName (l.drop 2) then (l.drop 2, [], true)
  else match cutK (if beginsK l [99, 47] then l.drop 2 else l) with
    | some (t, c) => if clusterK t c = l then (t, c, true) else ([], [], false)
    | none => ([], [], false)
def pack (x : List UInt8 × List UInt8 × Bool) : ByteArray × ByteArray × Bool := (⟨x.1.toArray⟩, ⟨x.2.1.toArray⟩, x.2.2)
theorem cutK_len {l a b : List UInt8} (h : cutK l = some (a, b)) : a.length ≤ l.length ∧ b.length ≤ l.length := by
  rw [cutK_spec h]
  simp
  omega
theorem read_j0 (l y : List UInt8) (hl : l.length ≤ 140737488351232) (b : Bool) : Ev (fun k => keys_Read.j0 k ⟨l.toArray⟩ ⟨y.toArray⟩ b) (pack (if b then (y, [], true)
  else match cutK (if beginsK l [99, 47] then l.drop 2 else l) with
    | some (t, c) => if clusterK t c = l then (t, c, true) else ([], [], false)
    | none => ([], [], false))) := by
  cases b with
  | true =>
    refine Ev.step (f := fun _ => some (⟨y.toArray⟩, ⟨#[]⟩, true)) (fun k => ?_) (Ev.now _)
    simp only [keys_Read.j0, if_true]
  | false =>
    generalize hm : (if beginsK l [99, 47] then l.drop 2 else l) = m
    have hml : m.length ≤ l.length := by
      subst hm
      split
      · simp
      · exact Nat.le_refl _
    have e1 : ∃ b', strings_CutPrefix.f ⟨l.toArray⟩ (⟨#[99, 47]⟩ : ByteArray) = some (⟨m.toArray⟩, b') := by
      rw [lit_mk2, cutPrefix_eq]
      subst hm
      cases beginsK l [99, 47]
      · exact ⟨_, rfl⟩
      · exact ⟨_, rfl⟩
    obtain ⟨b', e1⟩ := e1
    have e2 := cut_eq m (by omega)
    simp only [Bool.false_eq_true, if_false]
    cases hcut : cutK m with
    | none =>
      rw [hcut] at e2
      refine Ev.step (f := fun _ => some (⟨#[]⟩, ⟨#[]⟩, false)) (fun k => ?_) (Ev.now _)
      simp only [keys_Read.j0, Bool.false_eq_true, if_false, e1, Option.bind_some, e2]
    | some x =>
      obtain ⟨t, c⟩ := x
      rw [hcut] at e2
      have hlen := cutK_len hcut
      refine Ev.step (f := fun k => (keys_Cluster.f k ⟨t.toArray⟩ ⟨c.toArray⟩).bind fun u => if u.toList = l then some (⟨t.toArray⟩, ⟨c.toArray⟩, true) else some (⟨#[]⟩, ⟨#[]⟩, false)) (fun k => ?_) ?_
      · simp only [keys_Read.j0, Bool.false_eq_true, if_false, e1, Option.bind_some, e2, if_true, toList_mk]
      · refine Ev.bind (cluster_ev t c (by omega) (by omega)) ?_
        rw [toList_mk]
        by_cases hk : clusterK t c = l
        · simp only [if_pos hk]
          exact Ev.now _
        · simp only [if_neg hk]
          exact Ev.now _
theorem read_ev (l : List UInt8) (hl : l.length ≤ 140737488351232) : Ev (fun k => keys_Read.f k ⟨l.toArray⟩) (pack (readK l)) := by
  unfold readK
  have e1 := cutPrefix_eq l [116, 47]
  rw [← lit_mk2] at e1
  cases hb : beginsK l [116, 47] with
  | false =>
    rw [hb] at e1
    refine Ev.congr (f := fun k => keys_Read.j0 k ⟨l.toArray⟩ ⟨l.toArray⟩ false) (fun k => ?_) (read_j0 l l hl false)
    simp only [keys_Read.f, e1, Option.bind_some, Bool.false_eq_true, if_false]
  | true =>
    rw [hb] at e1
    refine Ev.congr (f := fun k => (keys_Name.f k ⟨(l.drop 2).toArray⟩).bind fun t => keys_Read.j0 k ⟨l.toArray⟩ ⟨(l.drop 2).toArray⟩ t) (fun k => ?_) ?_
    · simp only [keys_Read.f, e1, Option.bind_some, if_true]
      rfl
    · refine Ev.bind (name_ev (l.drop 2) (by simp; omega)) ?_
      simp only [Bool.true_and]
      exact read_j0 l (l.drop 2) hl (isName (l.drop 2))
/-! ### a prefix's end -/
def endK (l : List UInt8) : List UInt8 := if l.isEmpty || !isPrefix l then [] else l.dropLast ++ [UInt8.ofNat ((l.getLastD 0).toNat + 1)]
theorem last_eq (l : List UInt8) (_h : l ≠ []) : ∀ h', (l[l.length - 1]'h') = l.getLastD 0 := by
  intro h'
  rw [List.getLastD_eq_getLast?, List.getLast?_eq_getElem?, List.getElem?_eq_getElem h']
  rfl
theorem strOf_one (b : UInt8) : strOfNums [((b.toNat : Int) + 1) % 256] = ⟨[UInt8.ofNat (b.toNat + 1)].toArray⟩ := by
  have e : (((b.toNat : Int) + 1) % 256).toNat = (b.toNat + 1) % 256 := by omega
  have e2 : UInt8.ofNat ((b.toNat + 1) % 256) = UInt8.ofNat (b.toNat + 1) := by
    apply UInt8.toNat_inj.1
    simp
  simp [strOfNums, e, e2]
theorem end_val (l : List UInt8) (h : l ≠ []) : (⟨l.toArray⟩ : ByteArray).extract 0 ((⟨l.toArray⟩ : ByteArray).size - 1) ++ strOfNums [(bt ⟨l.toArray⟩ (((⟨l.toArray⟩ : ByteArray).size - 1 : Nat) : Int) + 1) % 256] = ⟨(l.dropLast ++ [UInt8.ofNat ((l.getLastD 0).toNat + 1)]).toArray⟩ := by
  have hl : 0 < l.length := List.length_pos_iff.2 h
  rw [size_mk, bt_mk l (l.length - 1) (by omega), last_eq l h, strOf_one, Lib.extract_eq]
  simp only [List.drop_zero, Nat.sub_zero]
  rw [← List.dropLast_eq_take, append_mk]
end Go.Proofs.Ytobanhbjkomieaa.KP
namespace Go.Proofs.Ytobanhbjkomieaa.KP
open Go.RowKit Go.Proofs.Ytobanhbjkomieaa.PAll Go.Proofs.YtobanhbjkomieaaW.PrintWords Go.Proofs.YtobanhbjkomieaaW.PrintLast

/-! ### the reference's -/
theorem in_l0 (c : Int) (l : List UInt8) (hl : l.length ≤ 140737488351232) : ∀ (d i : Nat), i + d = l.length →
    Ev (fun k => batonref11_in.l0 k c ⟨l.toArray⟩ (i : Int)) ((l.drop i).any fun b => decide ((b.toNat : Int) = c))
  | 0, i, h => by
    refine Ev.step (f := fun _ => some ((l.drop i).any fun b => decide ((b.toNat : Int) = c))) (fun k => ?_) (Ev.now _)
    simp only [batonref11_in.l0]
    rw [size_mk, if_neg (by omega), List.drop_eq_nil_of_le (by omega)]
    rfl
  | d + 1, i, h => by
    have hi : i < l.length := by omega
    have hd : l.drop i = l[i] :: l.drop (i + 1) := List.drop_eq_getElem_cons hi
    have ih := in_l0 c l hl d (i + 1) (by omega)
    rw [hd, List.any_cons]
    by_cases hc : ((l[i].toNat : Int)) = c
    · refine Ev.step (f := fun _ => some true) (fun k => ?_) ?_
      · simp only [batonref11_in.l0]
        rw [if_pos (by rw [size_mk]; omega), if_pos (by omega), bt_mk l i hi, if_pos hc]
      · rw [decide_eq_true hc]
        exact Ev.now _
    · refine Ev.step (f := fun k => batonref11_in.l0 k c ⟨l.toArray⟩ ((i + 1 : Nat) : Int)) (fun k => ?_) ?_
      · simp only [batonref11_in.l0]
        rw [if_pos (by rw [size_mk]; omega), if_pos (by omega), bt_mk l i hi, if_neg hc, wrap_succ (by omega) (by omega)]
        rfl
      · rw [decide_eq_false hc, Bool.false_or]
        exact ih
theorem in_ev (c : Int) (l : List UInt8) (hl : l.length ≤ 140737488351232) : Ev (fun k => batonref11_in.f k c ⟨l.toArray⟩) (l.any fun b => decide ((b.toNat : Int) = c)) :=
  in_l0 c l hl l.length 0 (by omega)
theorem made_l0 (l al : List UInt8) (hl : l.length ≤ 140737488351232) (ha : al.length ≤ 140737488351232) : ∀ (d i : Nat), i + d = l.length →
    Ev (fun k => batonref11_made.l0 k ⟨l.toArray⟩ ⟨al.toArray⟩ (i : Int)) ((l.drop i).all fun x => al.any fun b => decide ((b.toNat : Int) = (x.toNat : Int)))
  | 0, i, h => by
    refine Ev.step (f := fun _ => some ((l.drop i).all fun x => al.any fun b => decide ((b.toNat : Int) = (x.toNat : Int)))) (fun k => ?_) (Ev.now _)
    simp only [batonref11_made.l0]
    rw [size_mk, if_neg (by omega), List.drop_eq_nil_of_le (by omega)]
    rfl
  | d + 1, i, h => by
    have hi : i < l.length := by omega
    have hd : l.drop i = l[i] :: l.drop (i + 1) := List.drop_eq_getElem_cons hi
    have ih := made_l0 l al hl ha d (i + 1) (by omega)
    rw [hd, List.all_cons]
    refine Ev.step (f := fun k => (batonref11_in.f k (l[i].toNat : Int) ⟨al.toArray⟩).bind fun t => if t = true then batonref11_made.l0 k ⟨l.toArray⟩ ⟨al.toArray⟩ ((i + 1 : Nat) : Int) else some false) (fun k => ?_) ?_
    · simp only [batonref11_made.l0]
      rw [if_pos (by rw [size_mk]; omega), if_pos (by omega), bt_mk l i hi, wrap_succ (by omega) (by omega)]
      rfl
    · refine Ev.bind (in_ev _ al ha) ?_
      cases al.any fun b => decide ((b.toNat : Int) = (l[i].toNat : Int))
      · simpa using Ev.now _
      · simpa using ih
theorem made_ev (l al : List UInt8) (most : Nat) (hl : l.length ≤ 140737488351232) (ha : al.length ≤ 140737488351232) :
    Ev (fun k => batonref11_made.f k ⟨l.toArray⟩ ⟨al.toArray⟩ (most : Int)) (decide (l.length ≤ most) && l.all fun x => al.any fun b => decide ((b.toNat : Int) = (x.toNat : Int))) := by
  by_cases h : l.length ≤ most
  · rw [decide_eq_true h, Bool.true_and]
    refine Ev.congr (f := fun k => batonref11_made.l0 k ⟨l.toArray⟩ ⟨al.toArray⟩ ((0 : Nat) : Int)) (fun k => ?_) (made_l0 l al hl ha l.length 0 (by omega))
    simp only [batonref11_made.f]
    rw [if_neg (by rw [size_mk]; omega)]
    rfl
  · rw [decide_eq_false h, Bool.false_and]
    refine Ev.congr (f := fun _ => some false) (fun k => ?_) (Ev.now _)
    simp only [batonref11_made.f]
    rw [if_pos (by rw [size_mk]; omega)]
def nameBytes : List UInt8 := [97, 98, 99, 100, 101, 102, 103, 104, 105, 106, 107, 108, 109, 110, 111, 112, 113, 114, 115, 116, 117, 118, 119, 120, 121, 122, 65, 66, 67, 68, 69, 70, 71, 72, 73, 74, 75, 76, 77, 78, 79, 80, 81, 82, 83, 84, 85, 86, 87, 88, 89, 90, 48, 49, 50, 51, 52, 53, 54, 55, 56, 57, 45, 95, 46]
theorem nameBytes_all : ∀ n : Fin 256, (nameBytes.any fun b => decide ((b.toNat : Int) = ((n.val : Nat) : Int))) = decide (2 ≤ kindOf ((n.val : Nat) : Int)) := by decide +kernel
theorem keyBytes_all : ∀ n : Fin 256, ((nameBytes ++ [47]).any fun b => decide ((b.toNat : Int) = ((n.val : Nat) : Int))) = decide (1 ≤ kindOf ((n.val : Nat) : Int)) := by decide +kernel
theorem all_names (l : List UInt8) : (l.all fun x => nameBytes.any fun b => decide ((b.toNat : Int) = (x.toNat : Int))) = allK 2 l := by
  unfold allK
  congr 1
  funext x
  exact nameBytes_all ⟨x.toNat, x.toNat_lt⟩
theorem all_keys (l : List UInt8) : (l.all fun x => (nameBytes ++ [47]).any fun b => decide ((b.toNat : Int) = (x.toNat : Int))) = allK 1 l := by
  unfold allK
  congr 1
  funext x
  exact keyBytes_all ⟨x.toNat, x.toNat_lt⟩
theorem rname_ev (l : List UInt8) (hl : l.length ≤ 140737488351232) : Ev (fun k => batonref11_Name.f k ⟨l.toArray⟩) (isName l) := by
  have h1 := made_ev l nameBytes 24 hl (by decide)
  rw [all_names] at h1
  unfold isName
  by_cases h : l = []
  · subst h
    refine Ev.congr (f := fun _ => some false) (fun k => ?_) (Ev.now _)
    simp only [batonref11_Name.f]
    rw [if_neg (by rw [size_mk]; decide)]
  · have h2 : l.isEmpty = false := by cases l <;> simp_all
    have hne : l.length ≠ 0 := by simpa using h
    rw [h2, Bool.not_false, Bool.true_and, Bool.and_comm]
    refine Ev.congr (f := fun k => (batonref11_made.f k ⟨l.toArray⟩ ⟨nameBytes.toArray⟩ ((24 : Nat) : Int)).bind fun t => some t) (fun k => ?_) (Ev.bind h1 (Ev.now _))
    simp only [batonref11_Name.f]
    rw [if_pos (by rw [size_mk]; omega)]
    rfl
theorem rkey_ev (l : List UInt8) (hl : l.length ≤ 140737488351232) : Ev (fun k => batonref11_Key.f k ⟨l.toArray⟩) (isKey l) := by
  have h1 := made_ev l (nameBytes ++ [47]) 64 hl (by decide)
  rw [all_keys] at h1
  unfold isKey
  by_cases h : l = []
  · subst h
    refine Ev.congr (f := fun _ => some false) (fun k => ?_) (Ev.now _)
    simp only [batonref11_Key.f]
    rw [if_neg (by rw [size_mk]; decide)]
  · have h2 : l.isEmpty = false := by cases l <;> simp_all
    have hne : l.length ≠ 0 := by simpa using h
    rw [h2, Bool.not_false, Bool.true_and, Bool.and_comm]
    refine Ev.congr (f := fun k => (batonref11_made.f k ⟨l.toArray⟩ ⟨(nameBytes ++ [47]).toArray⟩ ((64 : Nat) : Int)).bind fun t => some t) (fun k => ?_) (Ev.bind h1 (Ev.now _))
    simp only [batonref11_Key.f]
    rw [if_pos (by rw [size_mk]; omega)]
    rfl
theorem rprefix_ev (l : List UInt8) (hl : l.length ≤ 140737488351232) : Ev (fun k => batonref11_Prefix.f k ⟨l.toArray⟩) (isPrefix l) := by
  have h1 := made_ev l (nameBytes ++ [47]) 64 hl (by decide)
  rw [all_keys] at h1
  unfold isPrefix
  rw [Bool.and_comm]
  exact Ev.bind h1 (Ev.now _)
theorem rcluster_ev (t c : List UInt8) (ht : t.length ≤ 140737488351232) (hc : c.length ≤ 140737488351232) : Ev (fun k => batonref11_Cluster.f k ⟨t.toArray⟩ ⟨c.toArray⟩) ⟨(clusterK t c).toArray⟩ := by
  refine Ev.bind (rname_ev t ht) ?_
  unfold clusterK
  cases h : isName t
  · simpa using Ev.now _
  · simp only [if_true, Bool.true_and]
    refine Ev.bind (rname_ev c hc) ?_
    cases isName c
    · simpa using Ev.now _
    · simp only [if_true]
      rw [size_mk, size_mk, if_pos (by omega), if_pos (by omega), lit_mk2, lit_mk1, append_mk, append_mk, append_mk]
      exact Ev.now _
theorem rtenant_ev (t : List UInt8) (ht : t.length ≤ 140737488351232) : Ev (fun k => batonref11_Tenant.f k ⟨t.toArray⟩) ⟨(tenantK t).toArray⟩ := by
  refine Ev.bind (rname_ev t ht) ?_
  unfold tenantK
  cases isName t
  · simpa using Ev.now _
  · simp only [if_true]
    rw [size_mk, if_pos (by omega), lit_mk2, append_mk]
    exact Ev.now _
/-! ### the names of a key, byte by byte -/
theorem isName_no47 {l : List UInt8} (h : isName l = true) : ∀ x ∈ l, x ≠ 47 := by
  intro x hx e
  unfold isName allK at h
  simp only [Bool.and_eq_true, List.all_eq_true, decide_eq_true_eq] at h
  have := h.2.1 x hx
  subst e
  exact absurd this (by decide)
theorem cutK_of {a b : List UInt8} (h : ∀ x ∈ a, x ≠ 47) : cutK (a ++ 47 :: b) = some (a, b) := by
  induction a with
  | nil => simp [cutK]
  | cons x a ih =>
    rw [List.cons_append]
    unfold cutK
    rw [if_neg (h x (by simp)), ih (fun y hy => h y (by simp [hy]))]
    rfl
/-- Is at this place the '/' of a cluster's key? -/
def sep (l : List UInt8) (i : Nat) : Bool := (l.take 2 == [99, 47]) && (l.getD i 0 == 47) && isName ((l.take i).drop 2) && isName (l.drop (i + 1))
theorem ext_take2 (l : List UInt8) : ((⟨l.toArray⟩ : ByteArray).extract 0 2).toList = l.take 2 := by
  rw [Lib.extract_toList]; rfl
theorem ext_mid (l : List UInt8) (i : Nat) : (⟨l.toArray⟩ : ByteArray).extract 2 i = ⟨((l.take i).drop 2).toArray⟩ := by
  rw [Lib.extract_eq]
  congr 2
  rw [List.drop_take]
theorem ext_end (l : List UInt8) (i : Nat) : (⟨l.toArray⟩ : ByteArray).extract i (⟨l.toArray⟩ : ByteArray).size = ⟨(l.drop i).toArray⟩ := by
  rw [Lib.extract_eq, size_mk]
  congr 2
  rw [List.take_of_length_le (by simp)]
theorem read_step_yes (l : List UInt8) (hl : l.length ≤ 140737488351232) (i : Nat) (h3 : 3 ≤ i) (hi : i < l.length) (hs : sep l i = true) :
    Ev (fun k => batonref11_Read.l0 k ⟨l.toArray⟩ (i : Int)) (pack ((l.take i).drop 2, l.drop (i + 1), true)) := by
  unfold sep at hs
  simp only [Bool.and_eq_true, beq_iff_eq] at hs
  obtain ⟨⟨⟨s1, s2⟩, s3⟩, s4⟩ := hs
  have hb : bt ⟨l.toArray⟩ (i : Int) = 47 := by
    rw [bt_mk l i hi]
    have : l[i] = 47 := by
      rw [List.getD_eq_getElem?_getD, List.getElem?_eq_getElem hi] at s2
      exact s2
    rw [this]
    rfl
  have e1 : ((i : Int) + 1).toNat = i + 1 := by omega
  refine Ev.step (f := fun k => (batonref11_Name.f k ⟨((l.take i).drop 2).toArray⟩).bind fun t => if t = true then ((batonref11_Name.f k ⟨(l.drop (i + 1)).toArray⟩).bind fun u => if u = true then some (⟨((l.take i).drop 2).toArray⟩, ⟨(l.drop (i + 1)).toArray⟩, true) else batonref11_Read.l0 k ⟨l.toArray⟩ ((i : Int) + 1)) else batonref11_Read.l0 k ⟨l.toArray⟩ ((i : Int) + 1)) (fun k => ?_) ?_
  · simp only [batonref11_Read.l0]
    rw [ext_take2, s1, hb, wrap_succ (by omega) (by omega), ← ext_mid, ← ext_end, e1]
    rw [if_pos (by rw [size_mk]; omega), if_pos (by omega), if_pos (by rw [size_mk]; omega), if_pos rfl, if_pos (by omega), if_pos rfl, if_pos (by omega), if_pos (by rw [size_mk]; omega)]
    rw [if_pos (show (0 : Int) ≤ (i : Int) + 1 by omega), if_pos (show (i : Int) + 1 ≤ ((⟨l.toArray⟩ : ByteArray).size : Int) by rw [size_mk]; omega)]
    rfl
  · refine Ev.bind (rname_ev _ (by simp; omega)) ?_
    rw [s3]
    simp only [if_true]
    refine Ev.bind (rname_ev _ (by simp; omega)) ?_
    rw [s4]
    exact Ev.now _
theorem read_step_no (l : List UInt8) (hl : l.length ≤ 140737488351232) (i : Nat) (h3 : 3 ≤ i) (hi : i < l.length) (hs : sep l i = false) (r : ByteArray × ByteArray × Bool)
    (hr : Ev (fun k => batonref11_Read.l0 k ⟨l.toArray⟩ ((i + 1 : Nat) : Int)) r) : Ev (fun k => batonref11_Read.l0 k ⟨l.toArray⟩ (i : Int)) r := by
  have e1 : ((i : Int) + 1).toNat = i + 1 := by omega
  have hr' : Ev (fun k => batonref11_Read.l0 k ⟨l.toArray⟩ ((i : Int) + 1)) r := hr
  by_cases s1 : l.take 2 = [99, 47]
  · by_cases s2 : l[i] = 47
    · have hb : bt ⟨l.toArray⟩ (i : Int) = 47 := by
        rw [bt_mk l i hi, s2]
        rfl
      refine Ev.step (f := fun k => (batonref11_Name.f k ⟨((l.take i).drop 2).toArray⟩).bind fun t => if t = true then ((batonref11_Name.f k ⟨(l.drop (i + 1)).toArray⟩).bind fun u => if u = true then some (⟨((l.take i).drop 2).toArray⟩, ⟨(l.drop (i + 1)).toArray⟩, true) else batonref11_Read.l0 k ⟨l.toArray⟩ ((i : Int) + 1)) else batonref11_Read.l0 k ⟨l.toArray⟩ ((i : Int) + 1)) (fun k => ?_) ?_
      · simp only [batonref11_Read.l0]
        rw [ext_take2, s1, hb, wrap_succ (by omega) (by omega), ← ext_mid, ← ext_end, e1]
        rw [if_pos (by rw [size_mk]; omega), if_pos (by omega), if_pos (by rw [size_mk]; omega), if_pos rfl, if_pos (by omega), if_pos rfl, if_pos (by omega), if_pos (by rw [size_mk]; omega)]
        rw [if_pos (show (0 : Int) ≤ (i : Int) + 1 by omega), if_pos (show (i : Int) + 1 ≤ ((⟨l.toArray⟩ : ByteArray).size : Int) by rw [size_mk]; omega)]
        rfl
      · unfold sep at hs
        rw [List.getD_eq_getElem?_getD, List.getElem?_eq_getElem hi] at hs
        simp only [s1, s2, Option.getD_some, beq_self_eq_true, Bool.true_and] at hs
        refine Ev.bind (rname_ev _ (by simp; omega)) ?_
        cases h5 : isName ((l.take i).drop 2)
        · simp only [Bool.false_eq_true, if_false]
          exact hr'
        · rw [h5, Bool.true_and] at hs
          simp only [if_true]
          refine Ev.bind (rname_ev _ (by simp; omega)) ?_
          rw [hs]
          simp only [Bool.false_eq_true, if_false]
          exact hr'
    · have hb : ¬ bt ⟨l.toArray⟩ (i : Int) = 47 := by
        rw [bt_mk l i hi]
        intro e
        apply s2
        apply UInt8.toNat_inj.1
        have : (l[i].toNat : Int) = ((47 : UInt8).toNat : Int) := e
        omega
      refine Ev.step (f := fun k => batonref11_Read.l0 k ⟨l.toArray⟩ ((i : Int) + 1)) (fun k => ?_) hr'
      simp only [batonref11_Read.l0]
      rw [ext_take2, s1, wrap_succ (by omega) (by omega)]
      rw [if_pos (by rw [size_mk]; omega), if_pos (by omega), if_pos (by rw [size_mk]; omega), if_pos rfl, if_pos (by omega), if_neg hb]
  · refine Ev.step (f := fun k => batonref11_Read.l0 k ⟨l.toArray⟩ ((i : Int) + 1)) (fun k => ?_) hr'
    simp only [batonref11_Read.l0]
    rw [ext_take2, wrap_succ (by omega) (by omega)]
    rw [if_pos (by rw [size_mk]; omega), if_pos (by omega), if_pos (by rw [size_mk]; omega), if_neg s1]
theorem sep_spec {l : List UInt8} {i : Nat} (hi : i < l.length) (h : sep l i = true) : l = [99, 47] ++ (l.take i).drop 2 ++ 47 :: l.drop (i + 1) ∧ isName ((l.take i).drop 2) = true ∧ isName (l.drop (i + 1)) = true := by
  unfold sep at h
  simp only [Bool.and_eq_true, beq_iff_eq] at h
  obtain ⟨⟨⟨s1, s2⟩, s3⟩, s4⟩ := h
  rw [List.getD_eq_getElem?_getD, List.getElem?_eq_getElem hi] at s2
  have s2' : l[i] = 47 := s2
  refine ⟨?_, s3, s4⟩
  have h2 : 2 ≤ i := by
    rcases Nat.lt_or_ge i 2 with h | h
    · exfalso
      have : (l.take i).drop 2 = [] := List.drop_eq_nil_of_le (by simp; omega)
      rw [this] at s3
      exact absurd s3 (by decide)
    · exact h
  have e1 : [99, 47] ++ (l.take i).drop 2 = l.take i := by
    have := List.take_append_drop 2 (l.take i)
    rw [List.take_take, Nat.min_eq_left h2, s1] at this
    exact this
  rw [e1, ← s2', ← List.drop_eq_getElem_cons hi, List.take_append_drop]
theorem sep_of {t c : List UInt8} (ht : isName t = true) (hc : isName c = true) : sep ([99, 47] ++ t ++ 47 :: c) (2 + t.length) = true := by
  unfold sep
  have e1 : ([99, 47] ++ t ++ 47 :: c : List UInt8).take (2 + t.length) = [99, 47] ++ t := by
    rw [List.take_append_of_le_length (by simp; omega), List.take_of_length_le (by simp; omega)]
  have e2 : ([99, 47] ++ t ++ 47 :: c : List UInt8).drop (2 + t.length + 1) = c := by
    rw [List.drop_append, List.drop_eq_nil_of_le (by simp; omega)]
    have : 2 + t.length + 1 - ([99, 47] ++ t : List UInt8).length = 1 := by simp; omega
    rw [this]
    rfl
  have e3 : ([99, 47] ++ t ++ 47 :: c : List UInt8).getD (2 + t.length) 0 = 47 := by
    rw [List.getD_eq_getElem?_getD, List.getElem?_append_right (by simp; omega)]
    have : 2 + t.length - ([99, 47] ++ t : List UInt8).length = 0 := by simp; omega
    rw [this]
    rfl
  rw [e1, e2, e3]
  simp [ht, hc]
theorem read_loop_none (l : List UInt8) (hl : l.length ≤ 140737488351232) (hno : ∀ i, i < l.length → sep l i = false) : ∀ (d i : Nat), i + d = l.length → 3 ≤ i →
    Ev (fun k => batonref11_Read.l0 k ⟨l.toArray⟩ (i : Int)) (pack ([], [], false))
  | 0, i, h, h3 => by
    refine Ev.step (f := fun _ => some (⟨#[]⟩, ⟨#[]⟩, false)) (fun k => ?_) (Ev.now _)
    simp only [batonref11_Read.l0]
    rw [if_neg (by rw [size_mk]; omega)]
  | d + 1, i, h, h3 => read_step_no l hl i h3 (by omega) (hno i (by omega)) _ (read_loop_none l hl hno d (i + 1) (by omega) (by omega))
theorem sep_one {l : List UInt8} {i j : Nat} (hi : i < l.length) (hj : j < l.length) (h : sep l i = true) (k : sep l j = true) : i = j := by
  obtain ⟨h1, h2, h3⟩ := sep_spec hi h
  obtain ⟨k1, k2, k3⟩ := sep_spec hj k
  have e1 : cutK (l.drop 2) = some ((l.take i).drop 2, l.drop (i + 1)) := by
    have : l.drop 2 = (l.take i).drop 2 ++ 47 :: l.drop (i + 1) := by
      conv => lhs; rw [h1]
      simp
    rw [this]
    exact cutK_of (isName_no47 h2)
  have e2 : cutK (l.drop 2) = some ((l.take j).drop 2, l.drop (j + 1)) := by
    have : l.drop 2 = (l.take j).drop 2 ++ 47 :: l.drop (j + 1) := by
      conv => lhs; rw [k1]
      simp
    rw [this]
    exact cutK_of (isName_no47 k2)
  rw [e1] at e2
  simp only [Option.some.injEq, Prod.mk.injEq] at e2
  have := congrArg List.length e2.2
  simp at this
  omega
theorem read_loop_some (l : List UInt8) (hl : l.length ≤ 140737488351232) (j : Nat) (hj : j < l.length) (hs : sep l j = true) : ∀ (d i : Nat), i + d = j → 3 ≤ i →
    Ev (fun k => batonref11_Read.l0 k ⟨l.toArray⟩ (i : Int)) (pack ((l.take j).drop 2, l.drop (j + 1), true))
  | 0, i, h, h3 => by
    obtain rfl : i = j := by omega
    exact read_step_yes l hl i h3 hj hs
  | d + 1, i, h, h3 => by
    have hn : sep l i = false := by
      rw [Bool.eq_false_iff]
      intro h'
      have := sep_one (by omega) hj h' hs
      omega
    exact read_step_no l hl i h3 (by omega) hn _ (read_loop_some l hl j hj hs d (i + 1) (by omega) (by omega))
theorem clusterK_some {t c l : List UInt8} (h : clusterK t c = l) (hl : l ≠ []) : isName t = true ∧ isName c = true ∧ l = [99, 47] ++ t ++ 47 :: c := by
  unfold clusterK at h
  cases ht : isName t
  · rw [ht] at h
    exact absurd h.symm hl
  · cases hc : isName c
    · rw [ht, hc] at h
      exact absurd h.symm hl
    · rw [ht, hc] at h
      simp only [Bool.and_self, if_true] at h
      exact ⟨rfl, rfl, by rw [← h]; simp⟩
theorem isName_len {t : List UInt8} (h : isName t = true) : 1 ≤ t.length ∧ t.length ≤ 24 := by
  unfold isName at h
  simp only [Bool.and_eq_true, decide_eq_true_eq, Bool.not_eq_true', List.isEmpty_eq_false_iff] at h
  exact ⟨List.length_pos_iff.2 h.1, h.2.2⟩
theorem begins2 (l : List UInt8) (a b : UInt8) (h : 2 ≤ l.length) : beginsK l [a, b] = (l.take 2 == [a, b]) := by
  unfold beginsK
  exact (take_eq_prefix l [a, b] h).symm
theorem cutK_nil_ne {l t c : List UInt8} (h : cutK l = some (t, c)) : l ≠ [] := by
  rintro rfl
  simp [cutK] at h
/-- The names of a cluster's key. -/
theorem readK_cluster {l t c : List UInt8} (ht : isName t = true) (hc : isName c = true) (h : l = [99, 47] ++ t ++ 47 :: c) : readK l = (t, c, true) := by
  subst h
  unfold readK
  have e1 : beginsK ([99, 47] ++ t ++ 47 :: c) [116, 47] = false := by simp [beginsK, List.isPrefixOf]
  have e2 : beginsK ([99, 47] ++ t ++ 47 :: c) [99, 47] = true := by simp [beginsK, List.isPrefixOf]
  rw [e1, e2]
  have e3 : ([99, 47] ++ t ++ 47 :: c : List UInt8).drop 2 = t ++ 47 :: c := by simp
  simp only [Bool.false_and, Bool.false_eq_true, if_false, if_true, e3]
  rw [cutK_of (isName_no47 ht)]
  simp only
  rw [if_pos]
  unfold clusterK
  simp [ht, hc]
/-- What is none. -/
theorem readK_none {l : List UInt8} (h1 : (beginsK l [116, 47] && isName (l.drop 2)) = false) (h2 : ∀ t c, isName t = true → isName c = true → l ≠ [99, 47] ++ t ++ 47 :: c) : readK l = ([], [], false) := by
  unfold readK
  rw [h1]
  simp only [Bool.false_eq_true, if_false]
  split
  · rename_i t c hcut
    rw [if_neg]
    intro he
    have hne : l ≠ [] := by
      rintro rfl
      have : beginsK [] [99, 47] = false := rfl
      rw [this] at hcut
      simp [cutK] at hcut
    obtain ⟨a, b, e⟩ := clusterK_some he hne
    exact h2 t c a b e
  · rfl
theorem rread_ev (l : List UInt8) (hl : l.length ≤ 140737488351232) : Ev (fun k => batonref11_Read.f k ⟨l.toArray⟩) (pack (readK l)) := by
  -- what lies behind the length's tests
  have key : 3 ≤ l.length → l.length ≤ 64 → Ev (fun k => batonref11_Read.j0 k ⟨l.toArray⟩ false) (pack (readK l)) := by
    intro h3 h64
    have rest : (beginsK l [116, 47] && isName (l.drop 2)) = false → Ev (fun k => batonref11_Read.l0 k ⟨l.toArray⟩ ((3 : Nat) : Int)) (pack (readK l)) := by
      intro hno
      by_cases hs : ∃ i, i < l.length ∧ sep l i = true
      · obtain ⟨i, hi, hs⟩ := hs
        obtain ⟨e, a, b⟩ := sep_spec hi hs
        rw [readK_cluster a b e]
        have hn := isName_len a
        have h3i : 3 ≤ i := by
          have := hn.1
          simp at this
          omega
        exact read_loop_some l hl i hi hs (i - 3) 3 (by omega) (by omega)
      · have hs' : ∀ i, i < l.length → sep l i = false := by
          intro i hi
          rw [Bool.eq_false_iff]
          intro h
          exact hs ⟨i, hi, h⟩
        rw [readK_none hno]
        · exact read_loop_none l hl hs' (l.length - 3) 3 (by omega) (by omega)
        · intro t c ht hc e
          have := hs' (2 + t.length) (by rw [e]; simp; omega)
          rw [e, sep_of ht hc] at this
          cases this
    refine Ev.step (f := fun k => if (l.take 2) = [116, 47] then ((batonref11_Name.f k ⟨(l.drop 2).toArray⟩).bind fun t => batonref11_Read.j1 k ⟨l.toArray⟩ t) else batonref11_Read.j1 k ⟨l.toArray⟩ false) (fun k => ?_) ?_
    · simp only [batonref11_Read.j0, Bool.false_eq_true, if_false]
      rw [ext_take2, ext_end, if_pos (by omega), if_pos (by rw [size_mk]; omega)]
    · have hj1 : (beginsK l [116, 47] && isName (l.drop 2)) = false → Ev (fun k => batonref11_Read.j1 k ⟨l.toArray⟩ false) (pack (readK l)) := fun hno =>
        Ev.step (f := fun k => batonref11_Read.l0 k ⟨l.toArray⟩ ((3 : Nat) : Int)) (fun k => by simp only [batonref11_Read.j1, Bool.false_eq_true, if_false]; rfl) (rest hno)
      by_cases ht : l.take 2 = [116, 47]
      · simp only [if_pos ht]
        have hb : beginsK l [116, 47] = true := by rw [begins2 l _ _ (by omega), ht]; rfl
        refine Ev.bind (rname_ev _ (by simp; omega)) ?_
        cases hn : isName (l.drop 2)
        · exact hj1 (by rw [hn, Bool.and_false])
        · refine Ev.step (f := fun _ => some (⟨(l.drop 2).toArray⟩, ⟨#[]⟩, true)) (fun k => ?_) ?_
          · simp only [batonref11_Read.j1, if_true]
            rw [ext_end, if_pos (by rw [size_mk]; omega)]
          · unfold readK
            rw [hb, hn]
            exact Ev.now _
      · simp only [if_neg ht]
        have hb : beginsK l [116, 47] = false := by
          rw [begins2 l _ _ (by omega), beq_eq_false_iff_ne]
          exact ht
        exact hj1 (by rw [hb, Bool.false_and])
  have out : l.length < 3 ∨ 64 < l.length → Ev (fun k => batonref11_Read.j0 k ⟨l.toArray⟩ true) (pack (readK l)) := by
    intro h
    rw [readK_none]
    · refine Ev.step (f := fun _ => some (⟨#[]⟩, ⟨#[]⟩, false)) (fun k => ?_) (Ev.now _)
      simp only [batonref11_Read.j0, if_true]
    · rw [Bool.eq_false_iff]
      intro h'
      rw [Bool.and_eq_true] at h'
      have := isName_len h'.2
      simp at this
      omega
    · intro t c ht hc e
      have h1 := isName_len ht
      have h2 := isName_len hc
      have := congrArg List.length e
      simp at this
      omega
  by_cases h3 : l.length < 3
  · refine Ev.congr (fun k => ?_) (out (.inl h3))
    simp only [batonref11_Read.f]
    rw [if_pos (by rw [size_mk]; omega)]
  · by_cases h64 : l.length ≤ 64
    · refine Ev.congr (fun k => ?_) (key (by omega) h64)
      simp only [batonref11_Read.f]
      rw [if_neg (by rw [size_mk]; omega), size_mk]
      rw [decide_eq_false (by omega)]
    · refine Ev.congr (fun k => ?_) (out (.inr (by omega)))
      simp only [batonref11_Read.f]
      rw [if_neg (by rw [size_mk]; omega), size_mk]
      rw [decide_eq_true (by omega)]
end Go.Proofs.Ytobanhbjkomieaa.KP
namespace Go.Proofs.Ytobanhbjkomieaa.KP
open Go.RowKit Go.Proofs.Ytobanhbjkomieaa.PAll Go.Proofs.YtobanhbjkomieaaW.PrintWords Go.Proofs.YtobanhbjkomieaaW.PrintLast

/-! ### the contracts, in the plain theory's words -/
theorem ev_calls {α : Type} {g : Nat → Option α} {r : α} (h : Ev g r) {Q : Prop} (k : ∀ n, g n = some r → Q) : Q := by
  obtain ⟨n, hn⟩ := h.rounds
  exact k n hn
section
variable (s t : ByteArray) (hs : s.size ≤ 140737488351232) (ht : t.size ≤ 140737488351232) (w : World)
include hs
theorem keysName_any : Calls Try.prog 107 #[.string s] w fun e w' => e = .returned (.bool (isName s.data.toList)) ∧ Drawn0 w w' := by
  obtain ⟨⟨l⟩⟩ := s
  exact ev_calls (name_ev l (by rw [size_mk] at hs; exact hs)) (fun k h => keys_Name.calls k _ _ w h)
theorem keysKey_any : Calls Try.prog 123 #[.string s] w fun e w' => e = .returned (.bool (isKey s.data.toList)) ∧ Drawn0 w w' := by
  obtain ⟨⟨l⟩⟩ := s
  exact ev_calls (key_ev l (by rw [size_mk] at hs; exact hs)) (fun k h => keys_Key.calls k _ _ w h)
theorem keysPrefix_any : Calls Try.prog 119 #[.string s] w fun e w' => e = .returned (.bool (isPrefix s.data.toList)) ∧ Drawn0 w w' := by
  obtain ⟨⟨l⟩⟩ := s
  exact ev_calls (prefix_ev l (by rw [size_mk] at hs; exact hs)) (fun k h => keys_Prefix.calls k _ _ w h)
theorem keysClusters_any : Calls Try.prog 202 #[.string s] w fun e w' => e = .returned (.string ⟨(clustersK s.data.toList).toArray⟩) ∧ Drawn0 w w' := by
  obtain ⟨⟨l⟩⟩ := s
  exact ev_calls (clusters_ev l (by rw [size_mk] at hs; exact hs)) (fun k h => keys_Clusters.calls k _ _ w h)
theorem keysTenant_any : Calls Try.prog 170 #[.string s] w fun e w' => e = .returned (.string ⟨(tenantK s.data.toList).toArray⟩) ∧ Drawn0 w w' := by
  obtain ⟨⟨l⟩⟩ := s
  exact ev_calls (tenant_ev l (by rw [size_mk] at hs; exact hs)) (fun k h => keys_Tenant.calls k _ _ w h)
theorem keysRead_any : Calls Try.prog 153 #[.string s] w fun e w' => e = .returned (.tuple #[.string ⟨(readK s.data.toList).1.toArray⟩, .string ⟨(readK s.data.toList).2.1.toArray⟩, .bool (readK s.data.toList).2.2]) ∧ Drawn0 w w' := by
  obtain ⟨⟨l⟩⟩ := s
  exact ev_calls (read_ev l (by rw [size_mk] at hs; exact hs)) (fun k h => keys_Read.calls k _ _ _ _ w h)
theorem refName_any : Calls Try.prog 94 #[.string s] w fun e w' => e = .returned (.bool (isName s.data.toList)) ∧ Drawn0 w w' := by
  obtain ⟨⟨l⟩⟩ := s
  exact ev_calls (rname_ev l (by rw [size_mk] at hs; exact hs)) (fun k h => batonref11_Name.calls k _ _ w h)
theorem refKey_any : Calls Try.prog 137 #[.string s] w fun e w' => e = .returned (.bool (isKey s.data.toList)) ∧ Drawn0 w w' := by
  obtain ⟨⟨l⟩⟩ := s
  exact ev_calls (rkey_ev l (by rw [size_mk] at hs; exact hs)) (fun k h => batonref11_Key.calls k _ _ w h)
theorem refPrefix_any : Calls Try.prog 177 #[.string s] w fun e w' => e = .returned (.bool (isPrefix s.data.toList)) ∧ Drawn0 w w' := by
  obtain ⟨⟨l⟩⟩ := s
  exact ev_calls (rprefix_ev l (by rw [size_mk] at hs; exact hs)) (fun k h => batonref11_Prefix.calls k _ _ w h)
theorem refTenant_any : Calls Try.prog 96 #[.string s] w fun e w' => e = .returned (.string ⟨(tenantK s.data.toList).toArray⟩) ∧ Drawn0 w w' := by
  obtain ⟨⟨l⟩⟩ := s
  exact ev_calls (rtenant_ev l (by rw [size_mk] at hs; exact hs)) (fun k h => batonref11_Tenant.calls k _ _ w h)
theorem refRead_any : Calls Try.prog 154 #[.string s] w fun e w' => e = .returned (.tuple #[.string ⟨(readK s.data.toList).1.toArray⟩, .string ⟨(readK s.data.toList).2.1.toArray⟩, .bool (readK s.data.toList).2.2]) ∧ Drawn0 w w' := by
  obtain ⟨⟨l⟩⟩ := s
  exact ev_calls (rread_ev l (by rw [size_mk] at hs; exact hs)) (fun k h => batonref11_Read.calls k _ _ _ _ w h)
include ht
theorem keysCluster_any : Calls Try.prog 168 #[.string s, .string t] w fun e w' => e = .returned (.string ⟨(clusterK s.data.toList t.data.toList).toArray⟩) ∧ Drawn0 w w' := by
  obtain ⟨⟨l⟩⟩ := s
  obtain ⟨⟨m⟩⟩ := t
  exact ev_calls (cluster_ev l m (by rw [size_mk] at hs; exact hs) (by rw [size_mk] at ht; exact ht)) (fun k h => keys_Cluster.calls k _ _ _ w h)
theorem refCluster_any : Calls Try.prog 95 #[.string s, .string t] w fun e w' => e = .returned (.string ⟨(clusterK s.data.toList t.data.toList).toArray⟩) ∧ Drawn0 w w' := by
  obtain ⟨⟨l⟩⟩ := s
  obtain ⟨⟨m⟩⟩ := t
  exact ev_calls (rcluster_ev l m (by rw [size_mk] at hs; exact hs) (by rw [size_mk] at ht; exact ht)) (fun k h => batonref11_Cluster.calls k _ _ _ w h)
end
theorem keysBegins_any (s p : ByteArray) (w : World) : Calls Try.prog 117 #[.string s, .string p] w fun e w' => e = .returned (.bool (beginsK s.data.toList p.data.toList)) ∧ Drawn0 w w' := by
  obtain ⟨⟨l⟩⟩ := s
  obtain ⟨⟨m⟩⟩ := p
  exact keys_Begins.calls _ _ _ w (begins_eq l m)
end Go.Proofs.Ytobanhbjkomieaa.KP
namespace Go.Proofs.Ytobanhbjkomieaa.KP
open Go.RowKit Go.Proofs.Ytobanhbjkomieaa.PAll Go.Proofs.YtobanhbjkomieaaW.PrintWords Go.Proofs.YtobanhbjkomieaaW.PrintLast
/-! ### at texts that are known -/
theorem read_lit (s : ByteArray) (a b : List UInt8) (c : Bool) (w : World) (hs : s.size ≤ 140737488351232) (h : readK s.data.toList = (a, b, c)) :
    Calls Try.prog 153 #[.string s] w fun e w' => e = .returned (.tuple #[.string ⟨a.toArray⟩, .string ⟨b.toArray⟩, .bool c]) ∧ Drawn0 w w' := by
  have := keysRead_any s hs w
  rw [h] at this
  exact this
theorem name_lit (s : ByteArray) (b : Bool) (w : World) (hs : s.size ≤ 140737488351232) (h : isName s.data.toList = b) :
    Calls Try.prog 107 #[.string s] w fun e w' => e = .returned (.bool b) ∧ Drawn0 w w' := by
  have := keysName_any s hs w
  rw [h] at this
  exact this
theorem key_lit (s : ByteArray) (b : Bool) (w : World) (hs : s.size ≤ 140737488351232) (h : isKey s.data.toList = b) :
    Calls Try.prog 123 #[.string s] w fun e w' => e = .returned (.bool b) ∧ Drawn0 w w' := by
  have := keysKey_any s hs w
  rw [h] at this
  exact this
theorem prefix_lit (s : ByteArray) (b : Bool) (w : World) (hs : s.size ≤ 140737488351232) (h : isPrefix s.data.toList = b) :
    Calls Try.prog 119 #[.string s] w fun e w' => e = .returned (.bool b) ∧ Drawn0 w w' := by
  have := keysPrefix_any s hs w
  rw [h] at this
  exact this
theorem cluster_lit (s t : ByteArray) (a : List UInt8) (w : World) (hs : s.size ≤ 140737488351232) (ht : t.size ≤ 140737488351232) (h : clusterK s.data.toList t.data.toList = a) :
    Calls Try.prog 168 #[.string s, .string t] w fun e w' => e = .returned (.string ⟨a.toArray⟩) ∧ Drawn0 w w' := by
  have := keysCluster_any s t hs ht w
  rw [h] at this
  exact this
theorem clusters_lit (s : ByteArray) (a : List UInt8) (w : World) (hs : s.size ≤ 140737488351232) (h : clustersK s.data.toList = a) :
    Calls Try.prog 202 #[.string s] w fun e w' => e = .returned (.string ⟨a.toArray⟩) ∧ Drawn0 w w' := by
  have := keysClusters_any s hs w
  rw [h] at this
  exact this
theorem tenant_lit (s : ByteArray) (a : List UInt8) (w : World) (hs : s.size ≤ 140737488351232) (h : tenantK s.data.toList = a) :
    Calls Try.prog 170 #[.string s] w fun e w' => e = .returned (.string ⟨a.toArray⟩) ∧ Drawn0 w w' := by
  have := keysTenant_any s hs w
  rw [h] at this
  exact this
theorem begins_lit (s p : ByteArray) (b : Bool) (w : World) (h : beginsK s.data.toList p.data.toList = b) :
    Calls Try.prog 117 #[.string s, .string p] w fun e w' => e = .returned (.bool b) ∧ Drawn0 w w' := by
  have := keysBegins_any s p w
  rw [h] at this
  exact this
end Go.Proofs.Ytobanhbjkomieaa.KP
namespace Go.Proofs.Ytobanhbjkomieaa.KP
open Go.RowKit Go.Proofs.Ytobanhbjkomieaa.PAll Go.Proofs.YtobanhbjkomieaaW.PrintWords Go.Proofs.YtobanhbjkomieaaW.PrintLast
/-! ### what follows of the plain theory -/
theorem isPrefix_nil : isPrefix [] = true := rfl
theorem isKey_nil : isKey [] = false := rfl
theorem isName_nil : isName [] = false := rfl
theorem key_prefix {l : List UInt8} (h : l ≠ []) : isKey l = isPrefix l := by
  unfold isKey isPrefix
  have : l.isEmpty = false := by cases l <;> simp_all
  rw [this, Bool.not_false, Bool.true_and]
theorem key_isPrefix {l : List UInt8} (h : isKey l = true) : isPrefix l = true := by
  have hne : l ≠ [] := by rintro rfl; cases h
  rw [← key_prefix hne]
  exact h
theorem allK_12 {l : List UInt8} (h : allK 2 l = true) : allK 1 l = true := by
  unfold allK at h ⊢
  rw [List.all_eq_true] at h ⊢
  intro x hx
  have := of_decide_eq_true (h x hx)
  exact decide_eq_true (by omega)
theorem name_key {l : List UInt8} (h : isName l = true) : isKey l = true := by
  unfold isName at h
  unfold isKey
  simp only [Bool.and_eq_true, decide_eq_true_eq] at h ⊢
  exact ⟨h.1, allK_12 h.2.1, by omega⟩
theorem allK_append (a : Int) (l m : List UInt8) : allK a (l ++ m) = (allK a l && allK a m) := by
  unfold allK; rw [List.all_append]
theorem allK_take_succ (a : Int) (l : List UInt8) (i : Nat) (h : i < l.length) : allK a (l.take (i + 1)) = (allK a (l.take i) && decide (a ≤ kindOf (l[i].toNat : Int))) := by
  rw [List.take_succ_eq_append_getElem h, allK_append]
  simp [allK]
theorem isKey_one (b : UInt8) : isKey [b] = decide (1 ≤ kindOf (b.toNat : Int)) := by
  unfold isKey allK
  simp
theorem isName_one (b : UInt8) : isName [b] = decide (2 ≤ kindOf (b.toNat : Int)) := by
  unfold isName allK
  simp
theorem isPrefix_append (l m : List UInt8) (hl : isPrefix l = true) (hm : isPrefix m = true) : isPrefix (l ++ m) = decide (l.length + m.length ≤ 64) := by
  unfold isPrefix at *
  rw [Bool.and_eq_true] at hl hm
  rw [allK_append, hl.1, hm.1, List.length_append]
  rfl
/-! #### the order of bytes -/
theorem less_irrefl : ∀ l : List UInt8, Op.bytesLess l l = false
  | [] => rfl
  | a :: l => by
    unfold Op.bytesLess
    rw [less_irrefl l]
    simp
theorem between (c : UInt8) (hc : c.toNat < 255) : ∀ (q k : List UInt8), (q ++ [c]).isPrefixOf k = (!(Op.bytesLess k (q ++ [c])) && Op.bytesLess k (q ++ [UInt8.ofNat (c.toNat + 1)]))
  | [], [] => by simp [Op.bytesLess]
  | [], b :: k => by
    have e : (UInt8.ofNat (c.toNat + 1)).toNat = c.toNat + 1 := by simp; omega
    have h0 : Op.bytesLess k [] = false := by cases k <;> rfl
    simp only [List.nil_append, List.isPrefixOf, Op.bytesLess, h0, Bool.and_false, Bool.or_false, Bool.and_true]
    rw [Bool.eq_iff_iff]
    simp only [beq_iff_eq, Bool.and_eq_true, Bool.not_eq_true', decide_eq_false_iff_not, decide_eq_true_eq, UInt8.lt_iff_toNat_lt, e]
    constructor
    · rintro rfl
      omega
    · intro h
      apply UInt8.toNat_inj.1
      omega
  | a :: q, [] => by simp [Op.bytesLess]
  | a :: q, b :: k => by
    have ih := between c hc q k
    simp only [List.cons_append, List.isPrefixOf, Op.bytesLess, ih]
    by_cases h : a = b
    · subst h
      simp
    · have h1 : (a == b) = false := by simpa using h
      have h2 : (b == a) = false := by simpa using Ne.symm h
      rw [h1, h2]
      simp only [Bool.false_and, Bool.or_false]
      cases decide (b < a) <;> rfl
theorem less_last (c : UInt8) (hc : c.toNat < 255) (q : List UInt8) : Op.bytesLess (q ++ [c]) (q ++ [UInt8.ofNat (c.toNat + 1)]) = true := by
  have h := between c hc q (q ++ [c])
  have h1 : (q ++ [c]).isPrefixOf (q ++ [c]) = true := List.isPrefixOf_iff_prefix.2 (List.prefix_refl _)
  rw [h1, less_irrefl] at h
  simpa using h.symm
theorem less_asymm : ∀ (k l : List UInt8), Op.bytesLess k l = true → Op.bytesLess l k = false
  | [], [], h => by cases h
  | [], _ :: _, _ => rfl
  | _ :: _, [], h => by cases h
  | a :: k, b :: l, h => by
    have ih := less_asymm k l
    unfold Op.bytesLess at h ⊢
    simp only [Bool.or_eq_true, Bool.and_eq_true, decide_eq_true_eq, beq_iff_eq, UInt8.lt_iff_toNat_lt] at h
    rcases h with h | ⟨rfl, h⟩
    · have h1 : (b == a) = false := by rw [beq_eq_false_iff_ne]; rintro rfl; omega
      rw [h1]
      simp [UInt8.lt_iff_toNat_lt]
      omega
    · rw [ih h]
      simp
/-! #### a prefix's end -/
theorem end_nil {l : List UInt8} (h : l = [] ∨ isPrefix l = false) : endK l = [] := by
  unfold endK
  rcases h with rfl | h
  · rfl
  · rw [h]; simp
theorem end_some {l : List UInt8} (h : l ≠ []) (hp : isPrefix l = true) : ∃ q c, l = q ++ [c] ∧ c.toNat < 255 ∧ endK l = q ++ [UInt8.ofNat (c.toNat + 1)] := by
  refine ⟨l.dropLast, l.getLast h, (List.dropLast_concat_getLast h).symm, ?_, ?_⟩
  · unfold isPrefix allK at hp
    simp only [Bool.and_eq_true, List.all_eq_true, decide_eq_true_eq] at hp
    have := hp.1 (l.getLast h) (List.getLast_mem h)
    have h1 := (l.getLast h).toNat_lt
    rcases Nat.lt_or_ge (l.getLast h).toNat 255 with h2 | h2
    · exact h2
    · have h3 : (l.getLast h).toNat = 255 := by omega
      rw [h3] at this
      exact absurd this (by decide)
  · unfold endK
    rw [hp]
    have h2 : l.isEmpty = false := by cases l <;> simp_all
    have h3 : l.getLastD 0 = l.getLast h := by rw [List.getLastD_eq_getLast?, List.getLast?_eq_some_getLast h]; rfl
    rw [h2, h3]
    rfl
theorem end_laws {l : List UInt8} (h : l ≠ []) (hp : isPrefix l = true) : Op.bytesLess l (endK l) = true ∧ Op.bytesLess (endK l) l = false ∧ endK l ≠ l ∧ (endK l).length = l.length ∧ ∀ k, beginsK k l = (!(Op.bytesLess k l) && Op.bytesLess k (endK l)) := by
  obtain ⟨q, c, rfl, hc, he⟩ := end_some h hp
  rw [he]
  have h1 := less_last c hc q
  refine ⟨h1, less_asymm _ _ h1, ?_, by simp, fun k => between c hc q k⟩
  intro e
  rw [e, less_irrefl] at h1
  cases h1
/-! #### names and keys -/
theorem clustersK_yes {a : List UInt8} (h : isName a = true) : clustersK a = [99, 47] ++ a ++ [47] := by unfold clustersK; rw [h]; rfl
theorem clustersK_no {a : List UInt8} (h : isName a = false) : clustersK a = [] := by unfold clustersK; rw [h]; rfl
theorem clusterK_yes {a b : List UInt8} (h : isName a = true) (k : isName b = true) : clusterK a b = [99, 47] ++ a ++ [47] ++ b := by unfold clusterK; rw [h, k]; rfl
theorem clusterK_no {a b : List UInt8} (h : isName a = false ∨ isName b = false) : clusterK a b = [] := by
  unfold clusterK
  rcases h with h | h
  · rw [h]; simp
  · rw [h]; simp
theorem tenantK_yes {a : List UInt8} (h : isName a = true) : tenantK a = [116, 47] ++ a := by unfold tenantK; rw [h]; rfl
theorem tenantK_no {a : List UInt8} (h : isName a = false) : tenantK a = [] := by unfold tenantK; rw [h]; rfl
theorem name_allK {a : List UInt8} (h : isName a = true) : allK 1 a = true := by
  unfold isName at h
  simp only [Bool.and_eq_true] at h
  exact allK_12 h.2.1
theorem isPrefix_clusters {a : List UInt8} (h : isName a = true) : isPrefix (clustersK a) = true := by
  rw [clustersK_yes h]
  unfold isPrefix
  have := isName_len h
  rw [allK_append, allK_append, name_allK h]
  simp [allK]
  refine ⟨by decide, by omega⟩
theorem isKey_cluster {a b : List UInt8} (h : isName a = true) (k : isName b = true) : isKey (clusterK a b) = true := by
  rw [clusterK_yes h k]
  unfold isKey
  have := isName_len h
  have := isName_len k
  rw [allK_append, allK_append, allK_append, name_allK h, name_allK k]
  simp [allK]
  refine ⟨by decide, by omega⟩
theorem isKey_tenant {a : List UInt8} (h : isName a = true) : isKey (tenantK a) = true := by
  rw [tenantK_yes h]
  unfold isKey
  have := isName_len h
  rw [allK_append, name_allK h]
  simp [allK]
  refine ⟨by decide, by omega⟩
theorem begins_own {a c d : List UInt8} (ha : isName a = true) (hc : isName c = true) (hd : isName d = true) : beginsK (clusterK c d) (clustersK a) = (a == c) := by
  rw [clusterK_yes hc hd, clustersK_yes ha]
  unfold beginsK
  rw [Bool.eq_iff_iff, List.isPrefixOf_iff_prefix, beq_iff_eq]
  constructor
  · rintro ⟨t, ht⟩
    have e : a ++ 47 :: t = c ++ 47 :: d := by simpa using ht
    have e1 : cutK (a ++ 47 :: t) = some (a, t) := cutK_of (isName_no47 ha)
    have e2 : cutK (c ++ 47 :: d) = some (c, d) := cutK_of (isName_no47 hc)
    rw [e, e2] at e1
    simp at e1
    exact e1.1.symm
  · rintro rfl
    exact ⟨d, by simp⟩
theorem begins_tenant {a c : List UInt8} (ha : isName a = true) : beginsK (tenantK c) (clustersK a) = false := by
  rw [clustersK_yes ha]
  cases hc : isName c
  · rw [tenantK_no hc]; rfl
  · rw [tenantK_yes hc]; simp [beginsK, List.isPrefixOf]
theorem read_cluster {a b : List UInt8} (h : isName a = true) (k : isName b = true) : readK (clusterK a b) = (a, b, true) := by
  apply readK_cluster h k
  rw [clusterK_yes h k]
  simp
theorem read_tenant {a : List UInt8} (h : isName a = true) : readK (tenantK a) = (a, [], true) := by
  rw [tenantK_yes h]
  unfold readK
  have e1 : beginsK ([116, 47] ++ a) [116, 47] = true := by simp [beginsK, List.isPrefixOf]
  have e2 : ([116, 47] ++ a : List UInt8).drop 2 = a := by simp
  rw [e1, e2, h]
  rfl
theorem read_back {l x y : List UInt8} (h : readK l = (x, y, true)) : clusterK x y = l ∨ (y = [] ∧ tenantK x = l) := by
  unfold readK at h
  split at h
  · rename_i hc
    rw [Bool.and_eq_true] at hc
    simp only [Prod.mk.injEq] at h
    obtain ⟨rfl, rfl, _⟩ := h
    right
    refine ⟨rfl, ?_⟩
    rw [tenantK_yes hc.2]
    obtain ⟨t, ht⟩ := List.isPrefixOf_iff_prefix.1 hc.1
    rw [← ht]
    simp
  · split at h
    · split at h
      · rename_i hk
        simp only [Prod.mk.injEq] at h
        obtain ⟨rfl, rfl, _⟩ := h
        exact .inl hk
      · simp at h
    · simp at h
theorem read_no {l x y : List UInt8} (h : readK l = (x, y, false)) : x = [] ∧ y = [] := by
  unfold readK at h
  split at h
  · simp at h
  · split at h
    · split at h
      · simp at h
      · simp at h; exact ⟨h.1, h.2⟩
    · simp at h; exact ⟨h.1, h.2⟩
theorem cluster_inj {a b c d : List UInt8} (ha : isName a = true) (hb : isName b = true) : (clusterK a b == clusterK c d) = (a == c && b == d) := by
  rw [Bool.eq_iff_iff, beq_iff_eq, Bool.and_eq_true, beq_iff_eq, beq_iff_eq]
  constructor
  · intro e
    have h1 := read_cluster ha hb
    rw [e] at h1
    by_cases hc : isName c = true ∧ isName d = true
    · rw [read_cluster hc.1 hc.2] at h1
      simp at h1
      exact ⟨h1.1.symm, h1.2.symm⟩
    · have : clusterK c d = [] := by
        apply clusterK_no
        cases h : isName c
        · exact .inl rfl
        · cases k : isName d
          · exact .inr rfl
          · exact absurd ⟨h, k⟩ hc
      rw [this] at h1
      cases h1
  · rintro ⟨rfl, rfl⟩
    rfl
theorem cluster_tenant {a b c : List UInt8} (ha : isName a = true) (hb : isName b = true) : (clusterK a b == tenantK c) = false := by
  rw [beq_eq_false_iff_ne, clusterK_yes ha hb]
  cases hc : isName c
  · rw [tenantK_no hc]; simp
  · rw [tenantK_yes hc]; simp
theorem tenant_inj {a c : List UInt8} (ha : isName a = true) : (tenantK a == tenantK c) = (a == c) := by
  rw [Bool.eq_iff_iff, beq_iff_eq, beq_iff_eq]
  constructor
  · intro e
    rw [tenantK_yes ha] at e
    cases hc : isName c
    · rw [tenantK_no hc] at e; cases e
    · rw [tenantK_yes hc] at e; simpa using e
  · rintro rfl
    rfl
theorem read_len {l x y : List UInt8} (h : readK l = (x, y, true)) : x.length ≤ 24 ∧ y.length ≤ 24 := by
  have hne : l ≠ [] := by
    rintro rfl
    rw [show readK [] = ([], [], false) by decide] at h
    simp at h
  rcases read_back h with e | ⟨rfl, e⟩
  · obtain ⟨h1, h2, _⟩ := clusterK_some e hne
    exact ⟨(isName_len h1).2, (isName_len h2).2⟩
  · cases hx : isName x
    · rw [tenantK_no hx] at e
      exact absurd e.symm hne
    · exact ⟨(isName_len hx).2, by simp⟩
theorem read_str (s a b : ByteArray) (c : Bool) (w : World) (hs : s.size ≤ 140737488351232) (h : readK s.data.toList = (a.data.toList, b.data.toList, c)) :
    Calls Try.prog 153 #[.string s] w fun e w' => e = .returned (.tuple #[.string a, .string b, .bool c]) ∧ Drawn0 w w' := by
  have := keysRead_any s hs w
  rw [h] at this
  simp only [Lib.mk_data] at this
  exact this
/-- What a key is read as. -/
theorem read_cases (s : ByteArray) : readK s.data.toList = ([], [], false) ∨ ∃ a b : ByteArray, a.size ≤ 24 ∧ b.size ≤ 24 ∧ readK s.data.toList = (a.data.toList, b.data.toList, true) ∧
    (clusterK a.data.toList b.data.toList = s.data.toList ∨ (b = ⟨#[]⟩ ∧ clusterK a.data.toList b.data.toList ≠ s.data.toList ∧ tenantK a.data.toList = s.data.toList)) := by
  generalize hr : readK s.data.toList = r
  obtain ⟨x, y, c⟩ := r
  cases c
  · obtain ⟨rfl, rfl⟩ := read_no hr
    exact .inl rfl
  · right
    have hl := read_len hr
    refine ⟨⟨x.toArray⟩, ⟨y.toArray⟩, by rw [size_mk]; exact hl.1, by rw [size_mk]; exact hl.2, rfl, ?_⟩
    by_cases hk : clusterK x y = s.data.toList
    · exact .inl hk
    · rcases read_back hr with e | ⟨rfl, e⟩
      · exact absurd e hk
      · exact .inr ⟨rfl, hk, e⟩
end Go.Proofs.Ytobanhbjkomieaa.KP
