import Derived.Test.YtobanhbjkomieaaPAllx
import Derived.Lib.Strings
import Derived.Lib.Bytealg
namespace Go.Proofs.Ytobanhbjkomieaa.KP
open Go.RowKit Go.Proofs.Ytobanhbjkomieaa.PAll Go.Proofs.YtobanhbjkomieaaW.PrintWords Go.Proofs.YtobanhbjkomieaaW.PrintLast

/-! ### bytes -/
theorem of_ev (c : Int) : Ev (fun _ => keys_of.f c) (kindOf c) := Ev.now _

theorem wrap_succ {i : Int} (h0 : 0 ≤ i) (h : i ≤ 140737488355328) : wrap64 (i + 1) = i + 1 := by unfold wrap64; omega

/-- All bytes are at least that. -/
def allK (least : Int) (l : List UInt8) : Bool := l.all fun b => decide (least ≤ kindOf (b.toNat : Int))
theorem bt_mk (l : List UInt8) (i : Nat) (h : i < l.length) : bt ⟨l.toArray⟩ (i : Int) = ((l[i]'h).toNat : Int) := by
  unfold bt
  have : ((i : Int).toNat) < (⟨l.toArray⟩ : ByteArray).size := by show _ < l.toArray.size; simpa using h
  rw [dif_pos this]
  rfl
theorem size_mk (l : List UInt8) : (⟨l.toArray⟩ : ByteArray).size = l.length := by show l.toArray.size = _; simp
theorem all_l0 (l : List UInt8) (hl : l.length ≤ 140737488351232) (least most : Int) : ∀ (d i : Nat), i + d = l.length →
    Ev (fun k => keys_all.l0 k ⟨l.toArray⟩ least most (l.length : Int) (i : Int)) (allK least (l.drop i) && decide ((l.length : Int) ≤ most))
  | 0, i, h => by
    refine Ev.step (f := fun _ => some (allK least (l.drop i) && decide ((l.length : Int) ≤ most))) (fun k => ?_) (Ev.now _)
    simp only [keys_all.l0]
    rw [if_neg (by omega), List.drop_eq_nil_of_le (by omega), size_mk]
    simp [allK]
  | d + 1, i, h => by
    have hi : i < l.length := by omega
    have hd : l.drop i = l[i] :: l.drop (i + 1) := List.drop_eq_getElem_cons hi
    have ih := all_l0 l hl least most d (i + 1) (by omega)
    refine Ev.step (f := fun k => (keys_of.f (bt ⟨l.toArray⟩ (i : Int))).bind fun t => if t < least then some false else keys_all.l0 k ⟨l.toArray⟩ least most (l.length : Int) (wrap64 ((i : Int) + 1))) (fun k => ?_) ?_
    · simp only [keys_all.l0]
      rw [if_pos (by omega), if_pos (by omega), if_pos (by rw [size_mk]; omega)]
    · refine Ev.bind (of_ev _) ?_
      rw [bt_mk l i hi, wrap_succ (by omega) (by omega), hd]
      by_cases hc : kindOf (l[i].toNat : Int) < least
      · simp only [if_pos hc, allK, List.all_cons]
        rw [decide_eq_false (by omega)]
        exact Ev.now _
      · simp only [if_neg hc, allK, List.all_cons]
        rw [decide_eq_true (by omega), Bool.true_and]
        exact ih
theorem all_ev (l : List UInt8) (hl : l.length ≤ 140737488351232) (least most : Int) : Ev (fun k => keys_all.f k ⟨l.toArray⟩ least most) (allK least l && decide ((l.length : Int) ≤ most)) := by
  have h := all_l0 l hl least most l.length 0 (by omega)
  refine Ev.congr (fun k => ?_) h
  simp only [keys_all.f, size_mk]
  rfl

/-! ### names, keys, prefixes -/
def isName (l : List UInt8) : Bool := !l.isEmpty && (allK 2 l && decide (l.length ≤ 24))
def isKey (l : List UInt8) : Bool := !l.isEmpty && (allK 1 l && decide (l.length ≤ 64))
def isPrefix (l : List UInt8) : Bool := allK 1 l && decide (l.length ≤ 64)
theorem dec_cast (n m : Nat) : decide ((n : Int) ≤ (m : Int)) = decide (n ≤ m) := by
  rw [Bool.eq_iff_iff]; simp
theorem toList_mk (l : List UInt8) : (⟨l.toArray⟩ : ByteArray).toList = l := by rw [Lib.toList_data]
theorem name_ev (l : List UInt8) (hl : l.length ≤ 140737488351232) : Ev (fun k => keys_Name.f k ⟨l.toArray⟩) (isName l) := by
  unfold isName
  by_cases h : l = []
  · subst h
    refine Ev.congr (f := fun _ => some false) (fun k => ?_) (Ev.now _)
    simp only [keys_Name.f, toList_mk, if_true]
  · refine Ev.congr (f := fun k => (keys_all.f k ⟨l.toArray⟩ 2 24).bind fun t => some t) (fun k => ?_) ?_
    · simp only [keys_Name.f, toList_mk]
      rw [if_neg h]
    · have h1 := all_ev l hl 2 24
      rw [show (24 : Int) = ((24 : Nat) : Int) from rfl, dec_cast] at h1
      have : l.isEmpty = false := by cases l <;> simp_all
      rw [this]
      exact Ev.bind h1 (Ev.now _)
theorem key_ev (l : List UInt8) (hl : l.length ≤ 140737488351232) : Ev (fun k => keys_Key.f k ⟨l.toArray⟩) (isKey l) := by
  unfold isKey
  by_cases h : l = []
  · subst h
    refine Ev.congr (f := fun _ => some false) (fun k => ?_) (Ev.now _)
    simp only [keys_Key.f, toList_mk, if_true]
  · refine Ev.congr (f := fun k => (keys_all.f k ⟨l.toArray⟩ 1 64).bind fun t => some t) (fun k => ?_) ?_
    · simp only [keys_Key.f, toList_mk]
      rw [if_neg h]
    · have h1 := all_ev l hl 1 64
      rw [show (64 : Int) = ((64 : Nat) : Int) from rfl, dec_cast] at h1
      have : l.isEmpty = false := by cases l <;> simp_all
      rw [this]
      exact Ev.bind h1 (Ev.now _)
theorem prefix_ev (l : List UInt8) (hl : l.length ≤ 140737488351232) : Ev (fun k => keys_Prefix.f k ⟨l.toArray⟩) (isPrefix l) := by
  have h1 := all_ev l hl 1 64
  rw [show (64 : Int) = ((64 : Nat) : Int) from rfl, dec_cast] at h1
  exact Ev.bind h1 (Ev.now _)

/-! ### what is made of names -/
def clustersK (t : List UInt8) : List UInt8 := if isName t then [99, 47] ++ t ++ [47] else []
def clusterK (t c : List UInt8) : List UInt8 := if isName t && isName c then [99, 47] ++ t ++ [47] ++ c else []
def tenantK (t : List UInt8) : List UInt8 := if isName t then [116, 47] ++ t else []
theorem append_mk (a b : List UInt8) : (⟨a.toArray⟩ : ByteArray) ++ ⟨b.toArray⟩ = ⟨(a ++ b).toArray⟩ := by
  apply WideShapes.bytes_inj
  simp
theorem lit_mk1 (a : UInt8) : (⟨#[a]⟩ : ByteArray) = ⟨[a].toArray⟩ := rfl
theorem lit_mk2 (a b : UInt8) : (⟨#[a, b]⟩ : ByteArray) = ⟨[a, b].toArray⟩ := rfl
theorem lit_mk0 : (⟨#[]⟩ : ByteArray) = ⟨([] : List UInt8).toArray⟩ := rfl
theorem clusters_ev (t : List UInt8) (ht : t.length ≤ 140737488351232) : Ev (fun k => keys_Clusters.f k ⟨t.toArray⟩) ⟨(clustersK t).toArray⟩ := by
  refine Ev.bind (name_ev t ht) ?_
  unfold clustersK
  cases isName t
  · simpa using Ev.now _
  · simp only [if_true]
    rw [size_mk, if_pos (by omega), lit_mk2, lit_mk1, append_mk, append_mk]
    exact Ev.now _
theorem cluster_ev (t c : List UInt8) (ht : t.length ≤ 140737488351232) (hc : c.length ≤ 140737488351232) : Ev (fun k => keys_Cluster.f k ⟨t.toArray⟩ ⟨c.toArray⟩) ⟨(clusterK t c).toArray⟩ := by
  refine Ev.bind (name_ev t ht) ?_
  unfold clusterK
  cases h : isName t
  · simpa using Ev.now _
  · simp only [if_true, Bool.true_and]
    refine Ev.bind (name_ev c hc) ?_
    cases isName c
    · simpa using Ev.now _
    · simp only [if_true]
      refine Ev.bind (clusters_ev t ht) ?_
      unfold clustersK
      simp only [h, if_true]
      rw [size_mk, size_mk, if_pos (by simp; omega), append_mk]
      exact Ev.now _
theorem tenant_ev (t : List UInt8) (ht : t.length ≤ 140737488351232) : Ev (fun k => keys_Tenant.f k ⟨t.toArray⟩) ⟨(tenantK t).toArray⟩ := by
  refine Ev.bind (name_ev t ht) ?_
  unfold tenantK
  cases isName t
  · simpa using Ev.now _
  · simp only [if_true]
    rw [size_mk, if_pos (by omega), lit_mk2, append_mk]
    exact Ev.now _

/-! ### a text's begin -/
def beginsK (l p : List UInt8) : Bool := p.isPrefixOf l
theorem take_eq_prefix (l p : List UInt8) (h : p.length ≤ l.length) : (l.take p.length == p) = p.isPrefixOf l := by
  have := Lib.hasPrefix_of_take l p
  rw [decide_eq_true h, Bool.true_and] at this
  exact this
theorem hasPrefix_eq (l p : List UInt8) : stringslite_HasPrefix.f ⟨l.toArray⟩ ⟨p.toArray⟩ = some (beginsK l p) := by
  unfold stringslite_HasPrefix.f beginsK
  rw [size_mk, size_mk]
  by_cases h : p.length ≤ l.length
  · rw [if_pos (by omega), if_pos (by omega), if_pos (by omega), Lib.extract_toList, toList_mk]
    simp only [Int.toNat_natCast, List.drop_zero, Nat.sub_zero]
    rw [take_eq_prefix l p h]
  · rw [if_neg (by omega)]
    congr 1
    symm
    rw [Bool.eq_false_iff]
    intro hp
    exact h (List.isPrefixOf_iff_prefix.1 hp).length_le
theorem begins_eq (l p : List UInt8) : keys_Begins.f ⟨l.toArray⟩ ⟨p.toArray⟩ = some (beginsK l p) := by
  simp only [keys_Begins.f, strings_HasPrefix.f, hasPrefix_eq, Option.bind_some]
theorem cutPrefix_eq (l p : List UInt8) : strings_CutPrefix.f ⟨l.toArray⟩ ⟨p.toArray⟩ = some (if beginsK l p then (⟨(l.drop p.length).toArray⟩, true) else (⟨l.toArray⟩, false)) := by
  simp only [strings_CutPrefix.f, stringslite_CutPrefix.f, hasPrefix_eq, Option.bind_some]
  cases h : beginsK l p
  · simp
  · have hl : p.length ≤ l.length := (List.isPrefixOf_iff_prefix.1 h).length_le
    simp only [if_true, size_mk]
    rw [if_pos (by omega), if_pos (by omega)]
    simp only [Int.toNat_natCast, Option.bind_some, Lib.extract_eq]
    rw [List.take_of_length_le (by simp)]
/-! ### cut at '/' -/
/-- Up to the first '/', behind it; none: there is none. -/
def cutK : List UInt8 → Option (List UInt8 × List UInt8)
  | [] => none
  | b :: l => if b = 47 then some ([], l) else (cutK l).map fun x => (b :: x.1, x.2)
theorem index_cut (l : List UInt8) : match cutK l with
    | none => Lib.indexByte l 47 = -1
    | some (a, b) => Lib.indexByte l 47 = (a.length : Int) ∧ l = a ++ 47 :: b := by
  induction l with
  | nil => rfl
  | cons c l ih =>
    unfold cutK Lib.indexByte
    by_cases hc : c = 47
    · subst hc
      simp
    · have hc' : (c == 47) = false := by simpa using hc
      rw [if_neg hc, hc']
      cases h : cutK l with
      | none =>
        rw [h] at ih
        simp only [Option.map_none]
        simp [ih]
      | some x =>
        obtain ⟨a, b⟩ := x
        rw [h] at ih
        obtain ⟨h1, h2⟩ := ih
        simp only [Option.map_some, Bool.false_eq_true, if_false, List.length_cons, h1]
        have : ((a.length : Int) == -1) = false := by simp only [beq_eq_false_iff_ne]; omega
        rw [this]
        refine ⟨by simp, by rw [h2]; simp⟩
theorem cutK_spec {l a b : List UInt8} (h : cutK l = some (a, b)) : l = a ++ 47 :: b := by
  have := index_cut l
  rw [h] at this
  exact this.2
theorem cut_eq (l : List UInt8) (hl : l.length ≤ 140737488351232) : strings_Cut.f ⟨l.toArray⟩ ⟨#[47]⟩ = some (match cutK l with | some (a, b) => (⟨a.toArray⟩, ⟨b.toArray⟩, true) | none => (⟨l.toArray⟩, ⟨#[]⟩, false)) := by
  have hx := index_cut l
  simp only [strings_Cut.f, stringslite_Cut.f, stringslite_Index.f, if_true, Option.bind_some]
  cases h : cutK l with
  | none =>
    rw [h] at hx
    simp only at hx
    rw [hx, if_neg (by decide)]
    rfl
  | some x =>
    obtain ⟨a, b⟩ := x
    rw [h] at hx
    obtain ⟨h1, h2⟩ := hx
    have hlen : l.length = a.length + 1 + b.length := by rw [h2]; simp; omega
    have h47 : ((⟨#[47]⟩ : ByteArray).size : Int) = 1 := rfl
    rw [h1, h47, wrap_succ (by omega) (by omega), size_mk, if_pos (by omega), if_pos (by omega), if_pos (by omega), if_pos (by omega), if_pos (by omega)]
    simp only [Option.bind_some, Lib.extract_eq]
    have e1 : ((a.length : Int) + 1).toNat = a.length + 1 := by omega
    rw [e1]
    simp only [Int.toNat_natCast, List.drop_zero, Nat.sub_zero]
    have e2 : l.take a.length = a := by rw [h2]; simp
    have e3 : (l.drop (a.length + 1)).take (l.length - (a.length + 1)) = b := by
      rw [List.take_of_length_le (by simp), h2, List.drop_append]
      simp
    rw [e2, e3]
/-! ### the names of a key -/
def readK (l : List UInt8) : List UInt8 × List UInt8 × Bool :=
  if beginsK l [116, 47] && isName (l.drop 2) then (l.drop 2, [], true)
  else match cutK (if beginsK l [99, 47] then l.drop 2 else l) with
    | some (t, c) => if clusterK t c = l then (t, c, true) else ([], [], false)
    | none => ([], [], false)
def pack (x : List UInt8 × List UInt8 × Bool) : ByteArray × ByteArray × Bool := (⟨x.1.toArray⟩, ⟨x.2.1.toArray⟩, x.2.2)
theorem cutK_len {l a b : List UInt8} (h : cutK l = some (a, b)) : a.length ≤ l.length ∧ b.length ≤ l.length := by
  rw [cutK_spec h]
  simp
  omega
theorem read_j0 (l y : List UInt8) (hl : l.length ≤ 140737488351232) (b : Bool) : Ev (fun k => keys_Read.j0 k ⟨l.toArray⟩ ⟨y.toArray⟩ b) (pack (if b then (y, [], true)
  else match cutK (if beginsK l [99, 47] then l.drop 2 else l) with
    | some (t, c) => if clusterK t c = l then (t, c, true) else ([], [], false)
    | none => ([], [], false))) := by
  cases b with
  | true =>
    refine Ev.step (f := fun _ => some (⟨y.toArray⟩, ⟨#[]⟩, true)) (fun k => ?_) (Ev.now _)
    simp only [keys_Read.j0, if_true]
  | false =>
    generalize hm : (if beginsK l [99, 47] then l.drop 2 else l) = m
    have hml : m.length ≤ l.length := by
      subst hm
      split
      · simp
      · exact Nat.le_refl _
    have e1 : ∃ b', strings_CutPrefix.f ⟨l.toArray⟩ (⟨#[99, 47]⟩ : ByteArray) = some (⟨m.toArray⟩, b') := by
      rw [lit_mk2, cutPrefix_eq]
      subst hm
      cases beginsK l [99, 47]
      · exact ⟨_, rfl⟩
      · exact ⟨_, rfl⟩
    obtain ⟨b', e1⟩ := e1
    have e2 := cut_eq m (by omega)
    simp only [Bool.false_eq_true, if_false]
    cases hcut : cutK m with
    | none =>
      rw [hcut] at e2
      refine Ev.step (f := fun _ => some (⟨#[]⟩, ⟨#[]⟩, false)) (fun k => ?_) (Ev.now _)
      simp only [keys_Read.j0, Bool.false_eq_true, if_false, e1, Option.bind_some, e2]
    | some x =>
      obtain ⟨t, c⟩ := x
      rw [hcut] at e2
      have hlen := cutK_len hcut
      refine Ev.step (f := fun k => (keys_Cluster.f k ⟨t.toArray⟩ ⟨c.toArray⟩).bind fun u => if u.toList = l then some (⟨t.toArray⟩, ⟨c.toArray⟩, true) else some (⟨#[]⟩, ⟨#[]⟩, false)) (fun k => ?_) ?_
      · simp only [keys_Read.j0, Bool.false_eq_true, if_false, e1, Option.bind_some, e2, if_true, toList_mk]
      · refine Ev.bind (cluster_ev t c (by omega) (by omega)) ?_
        rw [toList_mk]
        by_cases hk : clusterK t c = l
        · simp only [if_pos hk]
          exact Ev.now _
        · simp only [if_neg hk]
          exact Ev.now _
theorem read_ev (l : List UInt8) (hl : l.length ≤ 140737488351232) : Ev (fun k => keys_Read.f k ⟨l.toArray⟩) (pack (readK l)) := by
  unfold readK
  have e1 := cutPrefix_eq l [116, 47]
  rw [← lit_mk2] at e1
  cases hb : beginsK l [116, 47] with
  | false =>
    rw [hb] at e1
    refine Ev.congr (f := fun k => keys_Read.j0 k ⟨l.toArray⟩ ⟨l.toArray⟩ false) (fun k => ?_) (read_j0 l l hl false)
    simp only [keys_Read.f, e1, Option.bind_some, Bool.false_eq_true, if_false]
  | true =>
    rw [hb] at e1
    refine Ev.congr (f := fun k => (keys_Name.f k ⟨(l.drop 2).toArray⟩).bind fun t => keys_Read.j0 k ⟨l.toArray⟩ ⟨(l.drop 2).toArray⟩ t) (fun k => ?_) ?_
    · simp only [keys_Read.f, e1, Option.bind_some, if_true]
      rfl
    · refine Ev.bind (name_ev (l.drop 2) (by simp; omega)) ?_
      simp only [Bool.true_and]
      exact read_j0 l (l.drop 2) hl (isName (l.drop 2))
/-! ### a prefix's end -/
def endK (l : List UInt8) : List UInt8 := if l.isEmpty || !isPrefix l then [] else l.dropLast ++ [UInt8.ofNat ((l.getLastD 0).toNat + 1)]
theorem last_eq (l : List UInt8) (_h : l ≠ []) : ∀ h', (l[l.length - 1]'h') = l.getLastD 0 := by
  intro h'
  rw [List.getLastD_eq_getLast?, List.getLast?_eq_getElem?, List.getElem?_eq_getElem h']
  rfl
theorem strOf_one (b : UInt8) : strOfNums [((b.toNat : Int) + 1) % 256] = ⟨[UInt8.ofNat (b.toNat + 1)].toArray⟩ := by
  have e : (((b.toNat : Int) + 1) % 256).toNat = (b.toNat + 1) % 256 := by omega
  have e2 : UInt8.ofNat ((b.toNat + 1) % 256) = UInt8.ofNat (b.toNat + 1) := by
    apply UInt8.toNat_inj.1
    simp
  simp [strOfNums, e, e2]
theorem end_val (l : List UInt8) (h : l ≠ []) : (⟨l.toArray⟩ : ByteArray).extract 0 ((⟨l.toArray⟩ : ByteArray).size - 1) ++ strOfNums [(bt ⟨l.toArray⟩ (((⟨l.toArray⟩ : ByteArray).size - 1 : Nat) : Int) + 1) % 256] = ⟨(l.dropLast ++ [UInt8.ofNat ((l.getLastD 0).toNat + 1)]).toArray⟩ := by
  have hl : 0 < l.length := List.length_pos_iff.2 h
  rw [size_mk, bt_mk l (l.length - 1) (by omega), last_eq l h, strOf_one, Lib.extract_eq]
  simp only [List.drop_zero, Nat.sub_zero]
  rw [← List.dropLast_eq_take, append_mk]
end Go.Proofs.Ytobanhbjkomieaa.KP
