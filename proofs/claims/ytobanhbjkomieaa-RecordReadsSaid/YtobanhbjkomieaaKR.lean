import Derived.Test.YtobanhbjkomieaaKP
namespace Go.Proofs.Ytobanhbjkomieaa.KP
open Go.RowKit Go.Proofs.Ytobanhbjkomieaa.PAll Go.Proofs.YtobanhbjkomieaaW.PrintWords Go.Proofs.YtobanhbjkomieaaW.PrintLast

/-! ### the reference's -/
theorem in_l0 (c : Int) (l : List UInt8) (hl : l.length ≤ 140737488351232) : ∀ (d i : Nat), i + d = l.length →
    Ev (fun k => batonref11_in.l0 k c ⟨l.toArray⟩ (i : Int)) ((l.drop i).any fun b => decide ((b.toNat : Int) = c))
  | 0, i, h => by
    refine Ev.step (f := fun _ => some ((l.drop i).any fun b => decide ((b.toNat : Int) = c))) (fun k => ?_) (Ev.now _)
    simp only [batonref11_in.l0]
    rw [size_mk, if_neg (by omega), List.drop_eq_nil_of_le (by omega)]
    rfl
  | d + 1, i, h => by
    have hi : i < l.length := by omega
    have hd : l.drop i = l[i] :: l.drop (i + 1) := List.drop_eq_getElem_cons hi
    have ih := in_l0 c l hl d (i + 1) (by omega)
    rw [hd, List.any_cons]
    by_cases hc : ((l[i].toNat : Int)) = c
    · refine Ev.step (f := fun _ => some true) (fun k => ?_) ?_
      · simp only [batonref11_in.l0]
        rw [if_pos (by rw [size_mk]; omega), if_pos (by omega), bt_mk l i hi, if_pos hc]
      · rw [decide_eq_true hc]
        exact Ev.now _
    · refine Ev.step (f := fun k => batonref11_in.l0 k c ⟨l.toArray⟩ ((i + 1 : Nat) : Int)) (fun k => ?_) ?_
      · simp only [batonref11_in.l0]
        rw [if_pos (by rw [size_mk]; omega), if_pos (by omega), bt_mk l i hi, if_neg hc, wrap_succ (by omega) (by omega)]
        rfl
      · rw [decide_eq_false hc, Bool.false_or]
        exact ih
theorem in_ev (c : Int) (l : List UInt8) (hl : l.length ≤ 140737488351232) : Ev (fun k => batonref11_in.f k c ⟨l.toArray⟩) (l.any fun b => decide ((b.toNat : Int) = c)) :=
  in_l0 c l hl l.length 0 (by omega)
theorem made_l0 (l al : List UInt8) (hl : l.length ≤ 140737488351232) (ha : al.length ≤ 140737488351232) : ∀ (d i : Nat), i + d = l.length →
    Ev (fun k => batonref11_made.l0 k ⟨l.toArray⟩ ⟨al.toArray⟩ (i : Int)) ((l.drop i).all fun x => al.any fun b => decide ((b.toNat : Int) = (x.toNat : Int)))
  | 0, i, h => by
    refine Ev.step (f := fun _ => some ((l.drop i).all fun x => al.any fun b => decide ((b.toNat : Int) = (x.toNat : Int)))) (fun k => ?_) (Ev.now _)
    simp only [batonref11_made.l0]
    rw [size_mk, if_neg (by omega), List.drop_eq_nil_of_le (by omega)]
    rfl
  | d + 1, i, h => by
    have hi : i < l.length := by omega
    have hd : l.drop i = l[i] :: l.drop (i + 1) := List.drop_eq_getElem_cons hi
    have ih := made_l0 l al hl ha d (i + 1) (by omega)
    rw [hd, List.all_cons]
    refine Ev.step (f := fun k => (batonref11_in.f k (l[i].toNat : Int) ⟨al.toArray⟩).bind fun t => if t = true then batonref11_made.l0 k ⟨l.toArray⟩ ⟨al.toArray⟩ ((i + 1 : Nat) : Int) else some false) (fun k => ?_) ?_
    · simp only [batonref11_made.l0]
      rw [if_pos (by rw [size_mk]; omega), if_pos (by omega), bt_mk l i hi, wrap_succ (by omega) (by omega)]
      rfl
    · refine Ev.bind (in_ev _ al ha) ?_
      cases al.any fun b => decide ((b.toNat : Int) = (l[i].toNat : Int))
      · simpa using Ev.now _
      · simpa using ih
theorem made_ev (l al : List UInt8) (most : Nat) (hl : l.length ≤ 140737488351232) (ha : al.length ≤ 140737488351232) :
    Ev (fun k => batonref11_made.f k ⟨l.toArray⟩ ⟨al.toArray⟩ (most : Int)) (decide (l.length ≤ most) && l.all fun x => al.any fun b => decide ((b.toNat : Int) = (x.toNat : Int))) := by
  by_cases h : l.length ≤ most
  · rw [decide_eq_true h, Bool.true_and]
    refine Ev.congr (f := fun k => batonref11_made.l0 k ⟨l.toArray⟩ ⟨al.toArray⟩ ((0 : Nat) : Int)) (fun k => ?_) (made_l0 l al hl ha l.length 0 (by omega))
    simp only [batonref11_made.f]
    rw [if_neg (by rw [size_mk]; omega)]
    rfl
  · rw [decide_eq_false h, Bool.false_and]
    refine Ev.congr (f := fun _ => some false) (fun k => ?_) (Ev.now _)
    simp only [batonref11_made.f]
    rw [if_pos (by rw [size_mk]; omega)]
def nameBytes : List UInt8 := [97, 98, 99, 100, 101, 102, 103, 104, 105, 106, 107, 108, 109, 110, 111, 112, 113, 114, 115, 116, 117, 118, 119, 120, 121, 122, 65, 66, 67, 68, 69, 70, 71, 72, 73, 74, 75, 76, 77, 78, 79, 80, 81, 82, 83, 84, 85, 86, 87, 88, 89, 90, 48, 49, 50, 51, 52, 53, 54, 55, 56, 57, 45, 95, 46]
theorem nameBytes_all : ∀ n : Fin 256, (nameBytes.any fun b => decide ((b.toNat : Int) = ((n.val : Nat) : Int))) = decide (2 ≤ kindOf ((n.val : Nat) : Int)) := by decide +kernel
theorem keyBytes_all : ∀ n : Fin 256, ((nameBytes ++ [47]).any fun b => decide ((b.toNat : Int) = ((n.val : Nat) : Int))) = decide (1 ≤ kindOf ((n.val : Nat) : Int)) := by decide +kernel
theorem all_names (l : List UInt8) : (l.all fun x => nameBytes.any fun b => decide ((b.toNat : Int) = (x.toNat : Int))) = allK 2 l := by
  unfold allK
  congr 1
  funext x
  exact nameBytes_all ⟨x.toNat, x.toNat_lt⟩
theorem all_keys (l : List UInt8) : (l.all fun x => (nameBytes ++ [47]).any fun b => decide ((b.toNat : Int) = (x.toNat : Int))) = allK 1 l := by
  unfold allK
  congr 1
  funext x
  exact keyBytes_all ⟨x.toNat, x.toNat_lt⟩
theorem rname_ev (l : List UInt8) (hl : l.length ≤ 140737488351232) : Ev (fun k => batonref11_Name.f k ⟨l.toArray⟩) (isName l) := by
  have h1 := made_ev l nameBytes 24 hl (by decide)
  rw [all_names] at h1
  unfold isName
  by_cases h : l = []
  · subst h
    refine Ev.congr (f := fun _ => some false) (fun k => ?_) (Ev.now _)
    simp only [batonref11_Name.f]
    rw [if_neg (by rw [size_mk]; decide)]
  · have h2 : l.isEmpty = false := by cases l <;> simp_all
    have hne : l.length ≠ 0 := by simpa using h
    rw [h2, Bool.not_false, Bool.true_and, Bool.and_comm]
    refine Ev.congr (f := fun k => (batonref11_made.f k ⟨l.toArray⟩ ⟨nameBytes.toArray⟩ ((24 : Nat) : Int)).bind fun t => some t) (fun k => ?_) (Ev.bind h1 (Ev.now _))
    simp only [batonref11_Name.f]
    rw [if_pos (by rw [size_mk]; omega)]
    rfl
theorem rkey_ev (l : List UInt8) (hl : l.length ≤ 140737488351232) : Ev (fun k => batonref11_Key.f k ⟨l.toArray⟩) (isKey l) := by
  have h1 := made_ev l (nameBytes ++ [47]) 64 hl (by decide)
  rw [all_keys] at h1
  unfold isKey
  by_cases h : l = []
  · subst h
    refine Ev.congr (f := fun _ => some false) (fun k => ?_) (Ev.now _)
    simp only [batonref11_Key.f]
    rw [if_neg (by rw [size_mk]; decide)]
  · have h2 : l.isEmpty = false := by cases l <;> simp_all
    have hne : l.length ≠ 0 := by simpa using h
    rw [h2, Bool.not_false, Bool.true_and, Bool.and_comm]
    refine Ev.congr (f := fun k => (batonref11_made.f k ⟨l.toArray⟩ ⟨(nameBytes ++ [47]).toArray⟩ ((64 : Nat) : Int)).bind fun t => some t) (fun k => ?_) (Ev.bind h1 (Ev.now _))
    simp only [batonref11_Key.f]
    rw [if_pos (by rw [size_mk]; omega)]
    rfl
theorem rprefix_ev (l : List UInt8) (hl : l.length ≤ 140737488351232) : Ev (fun k => batonref11_Prefix.f k ⟨l.toArray⟩) (isPrefix l) := by
  have h1 := made_ev l (nameBytes ++ [47]) 64 hl (by decide)
  rw [all_keys] at h1
  unfold isPrefix
  rw [Bool.and_comm]
  exact Ev.bind h1 (Ev.now _)
theorem rcluster_ev (t c : List UInt8) (ht : t.length ≤ 140737488351232) (hc : c.length ≤ 140737488351232) : Ev (fun k => batonref11_Cluster.f k ⟨t.toArray⟩ ⟨c.toArray⟩) ⟨(clusterK t c).toArray⟩ := by
  refine Ev.bind (rname_ev t ht) ?_
  unfold clusterK
  cases h : isName t
  · simpa using Ev.now _
  · simp only [if_true, Bool.true_and]
    refine Ev.bind (rname_ev c hc) ?_
    cases isName c
    · simpa using Ev.now _
    · simp only [if_true]
      rw [size_mk, size_mk, if_pos (by omega), if_pos (by omega), lit_mk2, lit_mk1, append_mk, append_mk, append_mk]
      exact Ev.now _
theorem rtenant_ev (t : List UInt8) (ht : t.length ≤ 140737488351232) : Ev (fun k => batonref11_Tenant.f k ⟨t.toArray⟩) ⟨(tenantK t).toArray⟩ := by
  refine Ev.bind (rname_ev t ht) ?_
  unfold tenantK
  cases isName t
  · simpa using Ev.now _
  · simp only [if_true]
    rw [size_mk, if_pos (by omega), lit_mk2, append_mk]
    exact Ev.now _
/-! ### the names of a key, byte by byte -/
theorem isName_no47 {l : List UInt8} (h : isName l = true) : ∀ x ∈ l, x ≠ 47 := by
  intro x hx e
  unfold isName allK at h
  simp only [Bool.and_eq_true, List.all_eq_true, decide_eq_true_eq] at h
  have := h.2.1 x hx
  subst e
  exact absurd this (by decide)
theorem cutK_of {a b : List UInt8} (h : ∀ x ∈ a, x ≠ 47) : cutK (a ++ 47 :: b) = some (a, b) := by
  induction a with
  | nil => simp [cutK]
  | cons x a ih =>
    rw [List.cons_append]
    unfold cutK
    rw [if_neg (h x (by simp)), ih (fun y hy => h y (by simp [hy]))]
    rfl
/-- Is at this place the '/' of a cluster's key? -/
def sep (l : List UInt8) (i : Nat) : Bool := (l.take 2 == [99, 47]) && (l.getD i 0 == 47) && isName ((l.take i).drop 2) && isName (l.drop (i + 1))
theorem ext_take2 (l : List UInt8) : ((⟨l.toArray⟩ : ByteArray).extract 0 2).toList = l.take 2 := by
  rw [Lib.extract_toList]; rfl
theorem ext_mid (l : List UInt8) (i : Nat) : (⟨l.toArray⟩ : ByteArray).extract 2 i = ⟨((l.take i).drop 2).toArray⟩ := by
  rw [Lib.extract_eq]
  congr 2
  rw [List.drop_take]
theorem ext_end (l : List UInt8) (i : Nat) : (⟨l.toArray⟩ : ByteArray).extract i (⟨l.toArray⟩ : ByteArray).size = ⟨(l.drop i).toArray⟩ := by
  rw [Lib.extract_eq, size_mk]
  congr 2
  rw [List.take_of_length_le (by simp)]
theorem read_step_yes (l : List UInt8) (hl : l.length ≤ 140737488351232) (i : Nat) (h3 : 3 ≤ i) (hi : i < l.length) (hs : sep l i = true) :
    Ev (fun k => batonref11_Read.l0 k ⟨l.toArray⟩ (i : Int)) (pack ((l.take i).drop 2, l.drop (i + 1), true)) := by
  unfold sep at hs
  simp only [Bool.and_eq_true, beq_iff_eq] at hs
  obtain ⟨⟨⟨s1, s2⟩, s3⟩, s4⟩ := hs
  have hb : bt ⟨l.toArray⟩ (i : Int) = 47 := by
    rw [bt_mk l i hi]
    have : l[i] = 47 := by
      rw [List.getD_eq_getElem?_getD, List.getElem?_eq_getElem hi] at s2
      exact s2
    rw [this]
    rfl
  have e1 : ((i : Int) + 1).toNat = i + 1 := by omega
  refine Ev.step (f := fun k => (batonref11_Name.f k ⟨((l.take i).drop 2).toArray⟩).bind fun t => if t = true then ((batonref11_Name.f k ⟨(l.drop (i + 1)).toArray⟩).bind fun u => if u = true then some (⟨((l.take i).drop 2).toArray⟩, ⟨(l.drop (i + 1)).toArray⟩, true) else batonref11_Read.l0 k ⟨l.toArray⟩ ((i : Int) + 1)) else batonref11_Read.l0 k ⟨l.toArray⟩ ((i : Int) + 1)) (fun k => ?_) ?_
  · simp only [batonref11_Read.l0]
    rw [ext_take2, s1, hb, wrap_succ (by omega) (by omega), ← ext_mid, ← ext_end, e1]
    rw [if_pos (by rw [size_mk]; omega), if_pos (by omega), if_pos (by rw [size_mk]; omega), if_pos rfl, if_pos (by omega), if_pos rfl, if_pos (by omega), if_pos (by rw [size_mk]; omega)]
    rw [if_pos (show (0 : Int) ≤ (i : Int) + 1 by omega), if_pos (show (i : Int) + 1 ≤ ((⟨l.toArray⟩ : ByteArray).size : Int) by rw [size_mk]; omega)]
    rfl
  · refine Ev.bind (rname_ev _ (by simp; omega)) ?_
    rw [s3]
    simp only [if_true]
    refine Ev.bind (rname_ev _ (by simp; omega)) ?_
    rw [s4]
    exact Ev.now _
theorem read_step_no (l : List UInt8) (hl : l.length ≤ 140737488351232) (i : Nat) (h3 : 3 ≤ i) (hi : i < l.length) (hs : sep l i = false) (r : ByteArray × ByteArray × Bool)
    (hr : Ev (fun k => batonref11_Read.l0 k ⟨l.toArray⟩ ((i + 1 : Nat) : Int)) r) : Ev (fun k => batonref11_Read.l0 k ⟨l.toArray⟩ (i : Int)) r := by
  have e1 : ((i : Int) + 1).toNat = i + 1 := by omega
  have hr' : Ev (fun k => batonref11_Read.l0 k ⟨l.toArray⟩ ((i : Int) + 1)) r := hr
  by_cases s1 : l.take 2 = [99, 47]
  · by_cases s2 : l[i] = 47
    · have hb : bt ⟨l.toArray⟩ (i : Int) = 47 := by
        rw [bt_mk l i hi, s2]
        rfl
      refine Ev.step (f := fun k => (batonref11_Name.f k ⟨((l.take i).drop 2).toArray⟩).bind fun t => if t = true then ((batonref11_Name.f k ⟨(l.drop (i + 1)).toArray⟩).bind fun u => if u = true then some (⟨((l.take i).drop 2).toArray⟩, ⟨(l.drop (i + 1)).toArray⟩, true) else batonref11_Read.l0 k ⟨l.toArray⟩ ((i : Int) + 1)) else batonref11_Read.l0 k ⟨l.toArray⟩ ((i : Int) + 1)) (fun k => ?_) ?_
      · simp only [batonref11_Read.l0]
        rw [ext_take2, s1, hb, wrap_succ (by omega) (by omega), ← ext_mid, ← ext_end, e1]
        rw [if_pos (by rw [size_mk]; omega), if_pos (by omega), if_pos (by rw [size_mk]; omega), if_pos rfl, if_pos (by omega), if_pos rfl, if_pos (by omega), if_pos (by rw [size_mk]; omega)]
        rw [if_pos (show (0 : Int) ≤ (i : Int) + 1 by omega), if_pos (show (i : Int) + 1 ≤ ((⟨l.toArray⟩ : ByteArray).size : Int) by rw [size_mk]; omega)]
        rfl
      · unfold sep at hs
        rw [List.getD_eq_getElem?_getD, List.getElem?_eq_getElem hi] at hs
        simp only [s1, s2, Option.getD_some, beq_self_eq_true, Bool.true_and] at hs
        refine Ev.bind (rname_ev _ (by simp; omega)) ?_
        cases h5 : isName ((l.take i).drop 2)
        · simp only [Bool.false_eq_true, if_false]
          exact hr'
        · rw [h5, Bool.true_and] at hs
          simp only [if_true]
          refine Ev.bind (rname_ev _ (by simp; omega)) ?_
          rw [hs]
          simp only [Bool.false_eq_true, if_false]
          exact hr'
    · have hb : ¬ bt ⟨l.toArray⟩ (i : Int) = 47 := by
        rw [bt_mk l i hi]
        intro e
        apply s2
        apply UInt8.toNat_inj.1
        have : (l[i].toNat : Int) = ((47 : UInt8).toNat : Int) := e
        omega
      refine Ev.step (f := fun k => batonref11_Read.l0 k ⟨l.toArray⟩ ((i : Int) + 1)) (fun k => ?_) hr'
      simp only [batonref11_Read.l0]
      rw [ext_take2, s1, wrap_succ (by omega) (by omega)]
      rw [if_pos (by rw [size_mk]; omega), if_pos (by omega), if_pos (by rw [size_mk]; omega), if_pos rfl, if_pos (by omega), if_neg hb]
  · refine Ev.step (f := fun k => batonref11_Read.l0 k ⟨l.toArray⟩ ((i : Int) + 1)) (fun k => ?_) hr'
    simp only [batonref11_Read.l0]
    rw [ext_take2, wrap_succ (by omega) (by omega)]
    rw [if_pos (by rw [size_mk]; omega), if_pos (by omega), if_pos (by rw [size_mk]; omega), if_neg s1]
theorem sep_spec {l : List UInt8} {i : Nat} (hi : i < l.length) (h : sep l i = true) : l = [99, 47] ++ (l.take i).drop 2 ++ 47 :: l.drop (i + 1) ∧ isName ((l.take i).drop 2) = true ∧ isName (l.drop (i + 1)) = true := by
  unfold sep at h
  simp only [Bool.and_eq_true, beq_iff_eq] at h
  obtain ⟨⟨⟨s1, s2⟩, s3⟩, s4⟩ := h
  rw [List.getD_eq_getElem?_getD, List.getElem?_eq_getElem hi] at s2
  have s2' : l[i] = 47 := s2
  refine ⟨?_, s3, s4⟩
  have h2 : 2 ≤ i := by
    rcases Nat.lt_or_ge i 2 with h | h
    · exfalso
      have : (l.take i).drop 2 = [] := List.drop_eq_nil_of_le (by simp; omega)
      rw [this] at s3
      exact absurd s3 (by decide)
    · exact h
  have e1 : [99, 47] ++ (l.take i).drop 2 = l.take i := by
    have := List.take_append_drop 2 (l.take i)
    rw [List.take_take, Nat.min_eq_left h2, s1] at this
    exact this
  rw [e1, ← s2', ← List.drop_eq_getElem_cons hi, List.take_append_drop]
theorem sep_of {t c : List UInt8} (ht : isName t = true) (hc : isName c = true) : sep ([99, 47] ++ t ++ 47 :: c) (2 + t.length) = true := by
  unfold sep
  have e1 : ([99, 47] ++ t ++ 47 :: c : List UInt8).take (2 + t.length) = [99, 47] ++ t := by
    rw [List.take_append_of_le_length (by simp; omega), List.take_of_length_le (by simp; omega)]
  have e2 : ([99, 47] ++ t ++ 47 :: c : List UInt8).drop (2 + t.length + 1) = c := by
    rw [List.drop_append, List.drop_eq_nil_of_le (by simp; omega)]
    have : 2 + t.length + 1 - ([99, 47] ++ t : List UInt8).length = 1 := by simp; omega
    rw [this]
    rfl
  have e3 : ([99, 47] ++ t ++ 47 :: c : List UInt8).getD (2 + t.length) 0 = 47 := by
    rw [List.getD_eq_getElem?_getD, List.getElem?_append_right (by simp; omega)]
    have : 2 + t.length - ([99, 47] ++ t : List UInt8).length = 0 := by simp; omega
    rw [this]
    rfl
  rw [e1, e2, e3]
  simp [ht, hc]
theorem read_loop_none (l : List UInt8) (hl : l.length ≤ 140737488351232) (hno : ∀ i, i < l.length → sep l i = false) : ∀ (d i : Nat), i + d = l.length → 3 ≤ i →
    Ev (fun k => batonref11_Read.l0 k ⟨l.toArray⟩ (i : Int)) (pack ([], [], false))
  | 0, i, h, h3 => by
    refine Ev.step (f := fun _ => some (⟨#[]⟩, ⟨#[]⟩, false)) (fun k => ?_) (Ev.now _)
    simp only [batonref11_Read.l0]
    rw [if_neg (by rw [size_mk]; omega)]
  | d + 1, i, h, h3 => read_step_no l hl i h3 (by omega) (hno i (by omega)) _ (read_loop_none l hl hno d (i + 1) (by omega) (by omega))
theorem sep_one {l : List UInt8} {i j : Nat} (hi : i < l.length) (hj : j < l.length) (h : sep l i = true) (k : sep l j = true) : i = j := by
  obtain ⟨h1, h2, h3⟩ := sep_spec hi h
  obtain ⟨k1, k2, k3⟩ := sep_spec hj k
  have e1 : cutK (l.drop 2) = some ((l.take i).drop 2, l.drop (i + 1)) := by
    have : l.drop 2 = (l.take i).drop 2 ++ 47 :: l.drop (i + 1) := by
      conv => lhs; rw [h1]
      simp
    rw [this]
    exact cutK_of (isName_no47 h2)
  have e2 : cutK (l.drop 2) = some ((l.take j).drop 2, l.drop (j + 1)) := by
    have : l.drop 2 = (l.take j).drop 2 ++ 47 :: l.drop (j + 1) := by
      conv => lhs; rw [k1]
      simp
    rw [this]
    exact cutK_of (isName_no47 k2)
  rw [e1] at e2
  simp only [Option.some.injEq, Prod.mk.injEq] at e2
  have := congrArg List.length e2.2
  simp at this
  omega
theorem read_loop_some (l : List UInt8) (hl : l.length ≤ 140737488351232) (j : Nat) (hj : j < l.length) (hs : sep l j = true) : ∀ (d i : Nat), i + d = j → 3 ≤ i →
    Ev (fun k => batonref11_Read.l0 k ⟨l.toArray⟩ (i : Int)) (pack ((l.take j).drop 2, l.drop (j + 1), true))
  | 0, i, h, h3 => by
    obtain rfl : i = j := by omega
    exact read_step_yes l hl i h3 hj hs
  | d + 1, i, h, h3 => by
    have hn : sep l i = false := by
      rw [Bool.eq_false_iff]
      intro h'
      have := sep_one (by omega) hj h' hs
      omega
    exact read_step_no l hl i h3 (by omega) hn _ (read_loop_some l hl j hj hs d (i + 1) (by omega) (by omega))
theorem clusterK_some {t c l : List UInt8} (h : clusterK t c = l) (hl : l ≠ []) : isName t = true ∧ isName c = true ∧ l = [99, 47] ++ t ++ 47 :: c := by
  unfold clusterK at h
  cases ht : isName t
  · rw [ht] at h
    exact absurd h.symm hl
  · cases hc : isName c
    · rw [ht, hc] at h
      exact absurd h.symm hl
    · rw [ht, hc] at h
      simp only [Bool.and_self, if_true] at h
      exact ⟨rfl, rfl, by rw [← h]; simp⟩
theorem isName_len {t : List UInt8} (h : isName t = true) : 1 ≤ t.length ∧ t.length ≤ 24 := by
  unfold isName at h
  simp only [Bool.and_eq_true, decide_eq_true_eq, Bool.not_eq_true', List.isEmpty_eq_false_iff] at h
  exact ⟨List.length_pos_iff.2 h.1, h.2.2⟩
theorem begins2 (l : List UInt8) (a b : UInt8) (h : 2 ≤ l.length) : beginsK l [a, b] = (l.take 2 == [a, b]) := by
  unfold beginsK
  exact (take_eq_prefix l [a, b] h).symm
theorem cutK_nil_ne {l t c : List UInt8} (h : cutK l = some (t, c)) : l ≠ [] := by
  rintro rfl
  simp [cutK] at h
/-- The names of a cluster's key. -/
theorem readK_cluster {l t c : List UInt8} (ht : isName t = true) (hc : isName c = true) (h : l = [99, 47] ++ t ++ 47 :: c) : readK l = (t, c, true) := by
  subst h
  unfold readK
  have e1 : beginsK ([99, 47] ++ t ++ 47 :: c) [116, 47] = false := by simp [beginsK, List.isPrefixOf]
  have e2 : beginsK ([99, 47] ++ t ++ 47 :: c) [99, 47] = true := by simp [beginsK, List.isPrefixOf]
  rw [e1, e2]
  have e3 : ([99, 47] ++ t ++ 47 :: c : List UInt8).drop 2 = t ++ 47 :: c := by simp
  simp only [Bool.false_and, Bool.false_eq_true, if_false, if_true, e3]
  rw [cutK_of (isName_no47 ht)]
  simp only
  rw [if_pos]
  unfold clusterK
  simp [ht, hc]
/-- What is none. -/
theorem readK_none {l : List UInt8} (h1 : (beginsK l [116, 47] && isName (l.drop 2)) = false) (h2 : ∀ t c, isName t = true → isName c = true → l ≠ [99, 47] ++ t ++ 47 :: c) : readK l = ([], [], false) := by
  unfold readK
  rw [h1]
  simp only [Bool.false_eq_true, if_false]
  split
  · rename_i t c hcut
    rw [if_neg]
    intro he
    have hne : l ≠ [] := by
      rintro rfl
      have : beginsK [] [99, 47] = false := rfl
      rw [this] at hcut
      simp [cutK] at hcut
    obtain ⟨a, b, e⟩ := clusterK_some he hne
    exact h2 t c a b e
  · rfl
theorem rread_ev (l : List UInt8) (hl : l.length ≤ 140737488351232) : Ev (fun k => batonref11_Read.f k ⟨l.toArray⟩) (pack (readK l)) := by
  -- what lies behind the length's tests
  have key : 3 ≤ l.length → l.length ≤ 64 → Ev (fun k => batonref11_Read.j0 k ⟨l.toArray⟩ false) (pack (readK l)) := by
    intro h3 h64
    have rest : (beginsK l [116, 47] && isName (l.drop 2)) = false → Ev (fun k => batonref11_Read.l0 k ⟨l.toArray⟩ ((3 : Nat) : Int)) (pack (readK l)) := by
      intro hno
      by_cases hs : ∃ i, i < l.length ∧ sep l i = true
      · obtain ⟨i, hi, hs⟩ := hs
        obtain ⟨e, a, b⟩ := sep_spec hi hs
        rw [readK_cluster a b e]
        have hn := isName_len a
        have h3i : 3 ≤ i := by
          have := hn.1
          simp at this
          omega
        exact read_loop_some l hl i hi hs (i - 3) 3 (by omega) (by omega)
      · have hs' : ∀ i, i < l.length → sep l i = false := by
          intro i hi
          rw [Bool.eq_false_iff]
          intro h
          exact hs ⟨i, hi, h⟩
        rw [readK_none hno]
        · exact read_loop_none l hl hs' (l.length - 3) 3 (by omega) (by omega)
        · intro t c ht hc e
          have := hs' (2 + t.length) (by rw [e]; simp; omega)
          rw [e, sep_of ht hc] at this
          cases this
    refine Ev.step (f := fun k => if (l.take 2) = [116, 47] then ((batonref11_Name.f k ⟨(l.drop 2).toArray⟩).bind fun t => batonref11_Read.j1 k ⟨l.toArray⟩ t) else batonref11_Read.j1 k ⟨l.toArray⟩ false) (fun k => ?_) ?_
    · simp only [batonref11_Read.j0, Bool.false_eq_true, if_false]
      rw [ext_take2, ext_end, if_pos (by omega), if_pos (by rw [size_mk]; omega)]
    · have hj1 : (beginsK l [116, 47] && isName (l.drop 2)) = false → Ev (fun k => batonref11_Read.j1 k ⟨l.toArray⟩ false) (pack (readK l)) := fun hno =>
        Ev.step (f := fun k => batonref11_Read.l0 k ⟨l.toArray⟩ ((3 : Nat) : Int)) (fun k => by simp only [batonref11_Read.j1, Bool.false_eq_true, if_false]; rfl) (rest hno)
      by_cases ht : l.take 2 = [116, 47]
      · simp only [if_pos ht]
        have hb : beginsK l [116, 47] = true := by rw [begins2 l _ _ (by omega), ht]; rfl
        refine Ev.bind (rname_ev _ (by simp; omega)) ?_
        cases hn : isName (l.drop 2)
        · exact hj1 (by rw [hn, Bool.and_false])
        · refine Ev.step (f := fun _ => some (⟨(l.drop 2).toArray⟩, ⟨#[]⟩, true)) (fun k => ?_) ?_
          · simp only [batonref11_Read.j1, if_true]
            rw [ext_end, if_pos (by rw [size_mk]; omega)]
          · unfold readK
            rw [hb, hn]
            exact Ev.now _
      · simp only [if_neg ht]
        have hb : beginsK l [116, 47] = false := by
          rw [begins2 l _ _ (by omega), beq_eq_false_iff_ne]
          exact ht
        exact hj1 (by rw [hb, Bool.false_and])
  have out : l.length < 3 ∨ 64 < l.length → Ev (fun k => batonref11_Read.j0 k ⟨l.toArray⟩ true) (pack (readK l)) := by
    intro h
    rw [readK_none]
    · refine Ev.step (f := fun _ => some (⟨#[]⟩, ⟨#[]⟩, false)) (fun k => ?_) (Ev.now _)
      simp only [batonref11_Read.j0, if_true]
    · rw [Bool.eq_false_iff]
      intro h'
      rw [Bool.and_eq_true] at h'
      have := isName_len h'.2
      simp at this
      omega
    · intro t c ht hc e
      have h1 := isName_len ht
      have h2 := isName_len hc
      have := congrArg List.length e
      simp at this
      omega
  by_cases h3 : l.length < 3
  · refine Ev.congr (fun k => ?_) (out (.inl h3))
    simp only [batonref11_Read.f]
    rw [if_pos (by rw [size_mk]; omega)]
  · by_cases h64 : l.length ≤ 64
    · refine Ev.congr (fun k => ?_) (key (by omega) h64)
      simp only [batonref11_Read.f]
      rw [if_neg (by rw [size_mk]; omega), size_mk]
      rw [decide_eq_false (by omega)]
    · refine Ev.congr (fun k => ?_) (out (.inr (by omega)))
      simp only [batonref11_Read.f]
      rw [if_neg (by rw [size_mk]; omega), size_mk]
      rw [decide_eq_true (by omega)]
end Go.Proofs.Ytobanhbjkomieaa.KP
