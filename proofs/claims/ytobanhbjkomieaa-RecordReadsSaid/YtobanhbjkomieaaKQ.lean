import Derived.Test.YtobanhbjkomieaaKA
namespace Go.Proofs.Ytobanhbjkomieaa.KP
open Go.RowKit Go.Proofs.Ytobanhbjkomieaa.PAll Go.Proofs.YtobanhbjkomieaaW.PrintWords Go.Proofs.YtobanhbjkomieaaW.PrintLast
/-! ### what follows of the plain theory -/
theorem isPrefix_nil : isPrefix [] = true := rfl
theorem isKey_nil : isKey [] = false := rfl
theorem isName_nil : isName [] = false := rfl
theorem key_prefix {l : List UInt8} (h : l ≠ []) : isKey l = isPrefix l := by
  unfold isKey isPrefix
  have : l.isEmpty = false := by cases l <;> simp_all
  rw [this, Bool.not_false, Bool.true_and]
theorem key_isPrefix {l : List UInt8} (h : isKey l = true) : isPrefix l = true := by
  have hne : l ≠ [] := by rintro rfl; cases h
  rw [← key_prefix hne]
  exact h
theorem allK_12 {l : List UInt8} (h : allK 2 l = true) : allK 1 l = true := by
  unfold allK at h ⊢
  rw [List.all_eq_true] at h ⊢
  intro x hx
  have := of_decide_eq_true (h x hx)
  exact decide_eq_true (by omega)
theorem name_key {l : List UInt8} (h : isName l = true) : isKey l = true := by
  unfold isName at h
  unfold isKey
  simp only [Bool.and_eq_true, decide_eq_true_eq] at h ⊢
  exact ⟨h.1, allK_12 h.2.1, by omega⟩
theorem allK_append (a : Int) (l m : List UInt8) : allK a (l ++ m) = (allK a l && allK a m) := by
  unfold allK; rw [List.all_append]
theorem allK_take_succ (a : Int) (l : List UInt8) (i : Nat) (h : i < l.length) : allK a (l.take (i + 1)) = (allK a (l.take i) && decide (a ≤ kindOf (l[i].toNat : Int))) := by
  rw [List.take_succ_eq_append_getElem h, allK_append]
  simp [allK]
theorem isKey_one (b : UInt8) : isKey [b] = decide (1 ≤ kindOf (b.toNat : Int)) := by
  unfold isKey allK
  simp
theorem isName_one (b : UInt8) : isName [b] = decide (2 ≤ kindOf (b.toNat : Int)) := by
  unfold isName allK
  simp
theorem isPrefix_append (l m : List UInt8) (hl : isPrefix l = true) (hm : isPrefix m = true) : isPrefix (l ++ m) = decide (l.length + m.length ≤ 64) := by
  unfold isPrefix at *
  rw [Bool.and_eq_true] at hl hm
  rw [allK_append, hl.1, hm.1, List.length_append]
  rfl
/-! #### the order of bytes -/
theorem less_irrefl : ∀ l : List UInt8, Op.bytesLess l l = false
  | [] => rfl
  | a :: l => by
    unfold Op.bytesLess
    rw [less_irrefl l]
    simp
theorem between (c : UInt8) (hc : c.toNat < 255) : ∀ (q k : List UInt8), (q ++ [c]).isPrefixOf k = (!(Op.bytesLess k (q ++ [c])) && Op.bytesLess k (q ++ [UInt8.ofNat (c.toNat + 1)]))
  | [], [] => by simp [Op.bytesLess]
  | [], b :: k => by
    have e : (UInt8.ofNat (c.toNat + 1)).toNat = c.toNat + 1 := by simp; omega
    have h0 : Op.bytesLess k [] = false := by cases k <;> rfl
    simp only [List.nil_append, List.isPrefixOf, Op.bytesLess, h0, Bool.and_false, Bool.or_false, Bool.and_true]
    rw [Bool.eq_iff_iff]
    simp only [beq_iff_eq, Bool.and_eq_true, Bool.not_eq_true', decide_eq_false_iff_not, decide_eq_true_eq, UInt8.lt_iff_toNat_lt, e]
    constructor
    · rintro rfl
      omega
    · intro h
      apply UInt8.toNat_inj.1
      omega
  | a :: q, [] => by simp [Op.bytesLess]
  | a :: q, b :: k => by
    have ih := between c hc q k
    simp only [List.cons_append, List.isPrefixOf, Op.bytesLess, ih]
    by_cases h : a = b
    · subst h
      simp
    · have h1 : (a == b) = false := by simpa using h
      have h2 : (b == a) = false := by simpa using Ne.symm h
      rw [h1, h2]
      simp only [Bool.false_and, Bool.or_false]
      cases decide (b < a) <;> rfl
theorem less_last (c : UInt8) (hc : c.toNat < 255) (q : List UInt8) : Op.bytesLess (q ++ [c]) (q ++ [UInt8.ofNat (c.toNat + 1)]) = true := by
  have h := between c hc q (q ++ [c])
  have h1 : (q ++ [c]).isPrefixOf (q ++ [c]) = true := List.isPrefixOf_iff_prefix.2 (List.prefix_refl _)
  rw [h1, less_irrefl] at h
  simpa using h.symm
theorem less_asymm : ∀ (k l : List UInt8), Op.bytesLess k l = true → Op.bytesLess l k = false
  | [], [], h => by cases h
  | [], _ :: _, _ => rfl
  | _ :: _, [], h => by cases h
  | a :: k, b :: l, h => by
    have ih := less_asymm k l
    unfold Op.bytesLess at h ⊢
    simp only [Bool.or_eq_true, Bool.and_eq_true, decide_eq_true_eq, beq_iff_eq, UInt8.lt_iff_toNat_lt] at h
    rcases h with h | ⟨rfl, h⟩
    · have h1 : (b == a) = false := by rw [beq_eq_false_iff_ne]; rintro rfl; omega
      rw [h1]
      simp [UInt8.lt_iff_toNat_lt]
      omega
    · rw [ih h]
      simp
/-! #### a prefix's end -/
theorem end_nil {l : List UInt8} (h : l = [] ∨ isPrefix l = false) : endK l = [] := by
  unfold endK
  rcases h with rfl | h
  · rfl
  · rw [h]; simp
theorem end_some {l : List UInt8} (h : l ≠ []) (hp : isPrefix l = true) : ∃ q c, l = q ++ [c] ∧ c.toNat < 255 ∧ endK l = q ++ [UInt8.ofNat (c.toNat + 1)] := by
  refine ⟨l.dropLast, l.getLast h, (List.dropLast_concat_getLast h).symm, ?_, ?_⟩
  · unfold isPrefix allK at hp
    simp only [Bool.and_eq_true, List.all_eq_true, decide_eq_true_eq] at hp
    have := hp.1 (l.getLast h) (List.getLast_mem h)
    have h1 := (l.getLast h).toNat_lt
    rcases Nat.lt_or_ge (l.getLast h).toNat 255 with h2 | h2
    · exact h2
    · have h3 : (l.getLast h).toNat = 255 := by omega
      rw [h3] at this
      exact absurd this (by decide)
  · unfold endK
    rw [hp]
    have h2 : l.isEmpty = false := by cases l <;> simp_all
    have h3 : l.getLastD 0 = l.getLast h := by rw [List.getLastD_eq_getLast?, List.getLast?_eq_some_getLast h]; rfl
    rw [h2, h3]
    rfl
theorem end_laws {l : List UInt8} (h : l ≠ []) (hp : isPrefix l = true) : Op.bytesLess l (endK l) = true ∧ Op.bytesLess (endK l) l = false ∧ endK l ≠ l ∧ (endK l).length = l.length ∧ ∀ k, beginsK k l = (!(Op.bytesLess k l) && Op.bytesLess k (endK l)) := by
  obtain ⟨q, c, rfl, hc, he⟩ := end_some h hp
  rw [he]
  have h1 := less_last c hc q
  refine ⟨h1, less_asymm _ _ h1, ?_, by simp, fun k => between c hc q k⟩
  intro e
  rw [e, less_irrefl] at h1
  cases h1
/-! #### names and keys -/
theorem clustersK_yes {a : List UInt8} (h : isName a = true) : clustersK a = [99, 47] ++ a ++ [47] := by unfold clustersK; rw [h]; rfl
theorem clustersK_no {a : List UInt8} (h : isName a = false) : clustersK a = [] := by unfold clustersK; rw [h]; rfl
theorem clusterK_yes {a b : List UInt8} (h : isName a = true) (k : isName b = true) : clusterK a b = [99, 47] ++ a ++ [47] ++ b := by unfold clusterK; rw [h, k]; rfl
theorem clusterK_no {a b : List UInt8} (h : isName a = false ∨ isName b = false) : clusterK a b = [] := by
  unfold clusterK
  rcases h with h | h
  · rw [h]; simp
  · rw [h]; simp
theorem tenantK_yes {a : List UInt8} (h : isName a = true) : tenantK a = [116, 47] ++ a := by unfold tenantK; rw [h]; rfl
theorem tenantK_no {a : List UInt8} (h : isName a = false) : tenantK a = [] := by unfold tenantK; rw [h]; rfl
theorem name_allK {a : List UInt8} (h : isName a = true) : allK 1 a = true := by
  unfold isName at h
  simp only [Bool.and_eq_true] at h
  exact allK_12 h.2.1
theorem isPrefix_clusters {a : List UInt8} (h : isName a = true) : isPrefix (clustersK a) = true := by
  rw [clustersK_yes h]
  unfold isPrefix
  have := isName_len h
  rw [allK_append, allK_append, name_allK h]
  simp [allK]
  refine ⟨by decide, by omega⟩
theorem isKey_cluster {a b : List UInt8} (h : isName a = true) (k : isName b = true) : isKey (clusterK a b) = true := by
  rw [clusterK_yes h k]
  unfold isKey
  have := isName_len h
  have := isName_len k
  rw [allK_append, allK_append, allK_append, name_allK h, name_allK k]
  simp [allK]
  refine ⟨by decide, by omega⟩
theorem isKey_tenant {a : List UInt8} (h : isName a = true) : isKey (tenantK a) = true := by
  rw [tenantK_yes h]
  unfold isKey
  have := isName_len h
  rw [allK_append, name_allK h]
  simp [allK]
  refine ⟨by decide, by omega⟩
theorem begins_own {a c d : List UInt8} (ha : isName a = true) (hc : isName c = true) (hd : isName d = true) : beginsK (clusterK c d) (clustersK a) = (a == c) := by
  rw [clusterK_yes hc hd, clustersK_yes ha]
  unfold beginsK
  rw [Bool.eq_iff_iff, List.isPrefixOf_iff_prefix, beq_iff_eq]
  constructor
  · rintro ⟨t, ht⟩
    have e : a ++ 47 :: t = c ++ 47 :: d := by simpa using ht
    have e1 : cutK (a ++ 47 :: t) = some (a, t) := cutK_of (isName_no47 ha)
    have e2 : cutK (c ++ 47 :: d) = some (c, d) := cutK_of (isName_no47 hc)
    rw [e, e2] at e1
    simp at e1
    exact e1.1.symm
  · rintro rfl
    exact ⟨d, by simp⟩
theorem begins_tenant {a c : List UInt8} (ha : isName a = true) : beginsK (tenantK c) (clustersK a) = false := by
  rw [clustersK_yes ha]
  cases hc : isName c
  · rw [tenantK_no hc]; rfl
  · rw [tenantK_yes hc]; simp [beginsK, List.isPrefixOf]
theorem read_cluster {a b : List UInt8} (h : isName a = true) (k : isName b = true) : readK (clusterK a b) = (a, b, true) := by
  apply readK_cluster h k
  rw [clusterK_yes h k]
  simp
theorem read_tenant {a : List UInt8} (h : isName a = true) : readK (tenantK a) = (a, [], true) := by
  rw [tenantK_yes h]
  unfold readK
  have e1 : beginsK ([116, 47] ++ a) [116, 47] = true := by simp [beginsK, List.isPrefixOf]
  have e2 : ([116, 47] ++ a : List UInt8).drop 2 = a := by simp
  rw [e1, e2, h]
  rfl
theorem read_back {l x y : List UInt8} (h : readK l = (x, y, true)) : clusterK x y = l ∨ (y = [] ∧ tenantK x = l) := by
  unfold readK at h
  split at h
  · rename_i hc
    rw [Bool.and_eq_true] at hc
    simp only [Prod.mk.injEq] at h
    obtain ⟨rfl, rfl, _⟩ := h
    right
    refine ⟨rfl, ?_⟩
    rw [tenantK_yes hc.2]
    obtain ⟨t, ht⟩ := List.isPrefixOf_iff_prefix.1 hc.1
    rw [← ht]
    simp
  · split at h
    · split at h
      · rename_i hk
        simp only [Prod.mk.injEq] at h
        obtain ⟨rfl, rfl, _⟩ := h
        exact .inl hk
      · simp at h
    · simp at h
theorem read_no {l x y : List UInt8} (h : readK l = (x, y, false)) : x = [] ∧ y = [] := by
  unfold readK at h
  split at h
  · simp at h
  · split at h
    · split at h
      · simp at h
      · simp at h; exact ⟨h.1, h.2⟩
    · simp at h; exact ⟨h.1, h.2⟩
theorem cluster_inj {a b c d : List UInt8} (ha : isName a = true) (hb : isName b = true) : (clusterK a b == clusterK c d) = (a == c && b == d) := by
  rw [Bool.eq_iff_iff, beq_iff_eq, Bool.and_eq_true, beq_iff_eq, beq_iff_eq]
  constructor
  · intro e
    have h1 := read_cluster ha hb
    rw [e] at h1
    by_cases hc : isName c = true ∧ isName d = true
    · rw [read_cluster hc.1 hc.2] at h1
      simp at h1
      exact ⟨h1.1.symm, h1.2.symm⟩
    · have : clusterK c d = [] := by
        apply clusterK_no
        cases h : isName c
        · exact .inl rfl
        · cases k : isName d
          · exact .inr rfl
          · exact absurd ⟨h, k⟩ hc
      rw [this] at h1
      cases h1
  · rintro ⟨rfl, rfl⟩
    rfl
theorem cluster_tenant {a b c : List UInt8} (ha : isName a = true) (hb : isName b = true) : (clusterK a b == tenantK c) = false := by
  rw [beq_eq_false_iff_ne, clusterK_yes ha hb]
  cases hc : isName c
  · rw [tenantK_no hc]; simp
  · rw [tenantK_yes hc]; simp
theorem tenant_inj {a c : List UInt8} (ha : isName a = true) : (tenantK a == tenantK c) = (a == c) := by
  rw [Bool.eq_iff_iff, beq_iff_eq, beq_iff_eq]
  constructor
  · intro e
    rw [tenantK_yes ha] at e
    cases hc : isName c
    · rw [tenantK_no hc] at e; cases e
    · rw [tenantK_yes hc] at e; simpa using e
  · rintro rfl
    rfl
theorem read_len {l x y : List UInt8} (h : readK l = (x, y, true)) : x.length ≤ 24 ∧ y.length ≤ 24 := by
  have hne : l ≠ [] := by
    rintro rfl
    rw [show readK [] = ([], [], false) by decide] at h
    simp at h
  rcases read_back h with e | ⟨rfl, e⟩
  · obtain ⟨h1, h2, _⟩ := clusterK_some e hne
    exact ⟨(isName_len h1).2, (isName_len h2).2⟩
  · cases hx : isName x
    · rw [tenantK_no hx] at e
      exact absurd e.symm hne
    · exact ⟨(isName_len hx).2, by simp⟩
theorem read_str (s a b : ByteArray) (c : Bool) (w : World) (hs : s.size ≤ 140737488351232) (h : readK s.data.toList = (a.data.toList, b.data.toList, c)) :
    Calls Try.prog 153 #[.string s] w fun e w' => e = .returned (.tuple #[.string a, .string b, .bool c]) ∧ Drawn0 w w' := by
  have := keysRead_any s hs w
  rw [h] at this
  simp only [Lib.mk_data] at this
  exact this
/-- What a key is read as. -/
theorem read_cases (s : ByteArray) : readK s.data.toList = ([], [], false) ∨ ∃ a b : ByteArray, a.size ≤ 24 ∧ b.size ≤ 24 ∧ readK s.data.toList = (a.data.toList, b.data.toList, true) ∧
    (clusterK a.data.toList b.data.toList = s.data.toList ∨ (b = ⟨#[]⟩ ∧ clusterK a.data.toList b.data.toList ≠ s.data.toList ∧ tenantK a.data.toList = s.data.toList)) := by
  generalize hr : readK s.data.toList = r
  obtain ⟨x, y, c⟩ := r
  cases c
  · obtain ⟨rfl, rfl⟩ := read_no hr
    exact .inl rfl
  · right
    have hl := read_len hr
    refine ⟨⟨x.toArray⟩, ⟨y.toArray⟩, by rw [size_mk]; exact hl.1, by rw [size_mk]; exact hl.2, rfl, ?_⟩
    by_cases hk : clusterK x y = s.data.toList
    · exact .inl hk
    · rcases read_back hr with e | ⟨rfl, e⟩
      · exact absurd e hk
      · exact .inr ⟨rfl, hk, e⟩
end Go.Proofs.Ytobanhbjkomieaa.KP
