import Derived.Test.YtobanhbjkomieaaRC
namespace Go.Proofs.Ytobanhbjkomieaa.RP
open Go.RowKit Go.Proofs.Ytobanhbjkomieaa.PAll Go.Proofs.Ytobanhbjkomieaa.KP Go.Proofs.Ytobanhbjkomieaa.BP Go.Proofs.YtobanhbjkomieaaW.PrintWords Go.Proofs.YtobanhbjkomieaaW.PrintLast Go.Proofs.YtobanhbjkomieaaW.PrintMore
open Go.Proofs.Ytobanhbjkomieaa.PRd (rv uv uv_bad uv_ok next_lt pow_le8 next_lt9)
set_option linter.unusedSimpArgs false
set_option linter.unusedVariables false
/-! ### plain law: what was written is read -/
/-- Numbers as bytes. -/
def nb (l : List Int) : List UInt8 := l.map fun n => UInt8.ofNat n.toNat
theorem nb_append (a b : List Int) : nb (a ++ b) = nb a ++ nb b := List.map_append
theorem nb_length (a : List Int) : (nb a).length = a.length := List.length_map _
theorem nb_strOf (l : List Int) : (strOfNums l).data.toList = nb l := by simp [strOfNums, nb]
theorem nb_bytesOf (s : ByteArray) : nb (bytesOf s) = s.data.toList := by
  have := congrArg (fun x : ByteArray => x.data.toList) (strOfNums_bytes s)
  rw [nb_strOf] at this
  exact this
/-- A varint's bytes. -/
def vb (n : Nat) : List UInt8 := nb (vint n)
theorem vb_small {n : Nat} (h : n < 128) : vb n = [UInt8.ofNat n] := by unfold vb; rw [vint_small h]; simp [nb]
theorem vb_big {n : Nat} (h : ¬ n < 128) : vb n = UInt8.ofNat (n % 128 + 128) :: vb (n / 128) := by
  unfold vb; rw [vint_big h]
  simp only [nb, List.map_cons]
  congr 2
theorem ofNat_toNat {n : Nat} (h : n < 256) : (UInt8.ofNat n).toNat = n := by
  simp [UInt8.toNat_ofNat']; omega
theorem rv_vb : ∀ (n i acc : Nat) (rest : List UInt8), 128 ^ i * n < 18446744073709551616 → rv i acc (vb n ++ rest) = (acc + 128 ^ i * n, i + (vb n).length, 0) := by
  intro n
  induction n using Nat.strongRecOn with
  | _ n ih =>
    intro i acc rest h
    by_cases hn : n < 128
    · rw [vb_small hn]
      simp only [List.cons_append, List.nil_append, rv, ofNat_toNat (show n < 256 by omega), List.length_singleton]
      rw [if_neg, if_pos hn]
      rintro ⟨rfl, h1⟩
      omega
    · rw [vb_big hn]
      have hm : (n % 128 + 128) % 128 = n % 128 := by omega
      simp only [List.cons_append, rv, ofNat_toNat (show n % 128 + 128 < 256 by omega), List.length_cons, hm]
      have h9 : i ≠ 9 := by rintro rfl; omega
      have hp : 128 ^ (i + 1) * (n / 128) ≤ 128 ^ i * n := by
        rw [Nat.pow_succ, Nat.mul_assoc]
        exact Nat.mul_le_mul_left _ (Nat.mul_div_le n 128)
      rw [if_neg (fun c => h9 c.1), if_neg (by omega), ih (n / 128) (by omega) (i + 1) _ rest (by omega)]
      refine Prod.ext ?_ (Prod.ext ?_ rfl)
      · simp only
        have e : n = n % 128 + 128 * (n / 128) := by omega
        conv => rhs; rw [e, Nat.mul_add, ← Nat.mul_assoc]
        rw [Nat.pow_succ, Nat.add_assoc]
      · simp only; omega
theorem rv_cut : ∀ (n i acc j : Nat), 128 ^ i * n < 18446744073709551616 → j < (vb n).length → rv i acc ((vb n).take j) = (0, 0, 8) := by
  intro n
  induction n using Nat.strongRecOn with
  | _ n ih =>
    intro i acc j h hj
    by_cases hn : n < 128
    · rw [vb_small hn] at hj ⊢
      obtain rfl : j = 0 := by simpa using hj
      rfl
    · rw [vb_big hn] at hj ⊢
      cases j with
      | zero => rfl
      | succ j =>
        simp only [List.take_succ_cons, rv, ofNat_toNat (show n % 128 + 128 < 256 by omega)]
        have h9 : i ≠ 9 := by rintro rfl; omega
        have hp : 128 ^ (i + 1) * (n / 128) ≤ 128 ^ i * n := by
          rw [Nat.pow_succ, Nat.mul_assoc]
          exact Nat.mul_le_mul_left _ (Nat.mul_div_le n 128)
        rw [if_neg (fun c => h9 c.1), if_neg (by omega)]
        exact ih (n / 128) (by omega) (i + 1) _ j (by omega) (by simpa using hj)
/-- A varint that is read has at least as many bytes as its number wants. -/
theorem rv_short : ∀ (l : List UInt8) (i acc n k : Nat), acc < 128 ^ i → rv i acc l = (n, k, 0) → n < 128 ^ k ∧ i < k
  | [], i, acc, n, k, _, h => by simp [rv] at h
  | b :: l, i, acc, n, k, ha, h => by
    rw [rv] at h
    split at h
    · simp at h
    · split at h
      · simp only [Prod.mk.injEq, and_true] at h
        obtain ⟨rfl, rfl⟩ := h
        exact ⟨next_lt ha (by assumption), by omega⟩
      · have := rv_short l (i + 1) _ n k (next_lt ha (by omega)) h
        exact ⟨this.1, by omega⟩
theorem vb_len (n : Nat) : (vb n).length = (vint n).length := nb_length _
theorem vb_pos (n : Nat) : 0 < (vb n).length := by rw [vb_len]; exact vint_pos n
theorem vb_le {n k : Nat} (h : n < 128 ^ k) (hk : 0 < k) : (vb n).length ≤ k := by
  obtain ⟨m, rfl⟩ : ∃ m, k = m + 1 := ⟨k - 1, by omega⟩
  rw [vb_len]
  exact vint_len m n h
theorem uv_vb (pre rest : List UInt8) (n : Nat) (h : n < 18446744073709551616) : uv (pre ++ (vb n ++ rest)) pre.length = (n, pre.length + (vb n).length, 0) := by
  simp only [uv, List.drop_left]
  rw [rv_vb n 0 0 rest (by simpa using h)]
  simp
theorem uv_cut (pre : List UInt8) (n j : Nat) (h : n < 18446744073709551616) (hj : j < (vb n).length) : uv (pre ++ (vb n).take j) pre.length = (0, 0, 8) := by
  simp only [uv, List.drop_left]
  rw [rv_cut n 0 0 j (by simpa using h) hj]
  simp
theorem uv_canon {s : List UInt8} {p n q : Nat} (h : uv s p = (n, q, 0)) : p + (vb n).length ≤ q := by
  simp only [uv] at h
  split at h
  · have h0 : (rv 0 0 (s.drop p)) = (n, q - p, 0) ∧ p ≤ q := by
      simp only [Prod.mk.injEq, and_true] at h
      refine ⟨Prod.ext h.1 (Prod.ext ?_ (by assumption)), ?_⟩ <;> (try simp only) <;> omega
    have := rv_short _ 0 0 n (q - p) (by simp) h0.1
    have h2 := vb_le this.1 this.2
    omega
  · simp only [Prod.mk.injEq] at h
    exact absurd h.2.2 (by assumption)
theorem rdV_vb (pre rest : List UInt8) (n most : Nat) (h : n ≤ most) (hm : most < 18446744073709551616) : rdV (pre ++ (vb n ++ rest)) pre.length 0 most = (n, pre.length + (vb n).length, 0) := by
  simp only [rdV, vAt, uv_vb pre rest n (by omega), if_true]
  rw [if_neg (by omega)]
theorem rdV_cut (pre : List UInt8) (n most j : Nat) (h : n ≤ most) (hm : most < 18446744073709551616) (hj : j < (vb n).length) : rdV (pre ++ (vb n).take j) pre.length 0 most = (0, pre.length, 8) := by
  simp only [rdV, vAt, uv_cut pre n j (by omega) hj, if_true]
  rfl
theorem rdV_err (s : List UInt8) (p most : Nat) (e : Int) (h : e ≠ 0) : rdV s p e most = (0, p, e) := by simp only [rdV, if_neg h]
theorem rdB_err (s : List UInt8) (p : Nat) (e : Int) (h : e ≠ 0) : rdB s p e = (0, p, e) := by unfold rdB; rw [if_neg h]
theorem rdT_err (s : List UInt8) (p most : Nat) (e : Int) (h : e ≠ 0) : rdT s p e most = ([], p, e) := by
  simp only [rdT, rdV_err s p most e h, if_neg h]
theorem rdB_at (pre rest : List UInt8) (b : UInt8) : rdB (pre ++ b :: rest) pre.length 0 = (b.toNat, pre.length + 1, 0) := by
  simp [rdB]
theorem rdB_end (pre : List UInt8) : rdB pre pre.length 0 = (0, pre.length, 8) := by
  simp [rdB]
theorem rdT_txt (pre rest t : List UInt8) (most : Nat) (h : t.length ≤ most) (hm : most < 18446744073709551616) :
    rdT (pre ++ (vb t.length ++ (t ++ rest))) pre.length 0 most = (t, pre.length + (vb t.length).length + t.length, 0) := by
  have e : (pre ++ (vb t.length ++ (t ++ rest))).drop (pre.length + (vb t.length).length) = t ++ rest := by
    rw [← List.append_assoc, ← List.length_append, List.drop_left]
  simp only [rdT, rdV_vb pre (t ++ rest) t.length most h hm, if_true]
  rw [if_neg (by simp; omega), e, List.take_left]
theorem rdT_cut (pre t : List UInt8) (most j : Nat) (h : t.length ≤ most) (hm : most < 18446744073709551616) (hj : j < (vb t.length ++ t).length) :
    rdT (pre ++ (vb t.length ++ t).take j) pre.length 0 most = ([], pre.length, 8) := by
  by_cases c : j < (vb t.length).length
  · have e : (vb t.length ++ t).take j = (vb t.length).take j := by rw [List.take_append_of_le_length (by omega)]
    rw [e]
    simp only [rdT, rdV_cut pre t.length most j h hm c]
    rfl
  · obtain ⟨m, rfl⟩ : ∃ m, j = (vb t.length).length + m := ⟨j - (vb t.length).length, by omega⟩
    have e : (vb t.length ++ t).take ((vb t.length).length + m) = vb t.length ++ t.take m := by
      rw [List.take_append, Nat.add_sub_cancel_left, List.take_of_length_le (by omega)]
    rw [e]
    simp only [rdT, rdV_vb pre (t.take m) t.length most h hm, if_true]
    rw [if_pos]
    simp only [List.length_append, List.length_take] at hj ⊢
    omega
theorem rdV_canon {s : List UInt8} {p q n most : Nat} {e : Int} (h : rdV s p e most = (n, q, 0)) : e = 0 ∧ p + (vb n).length ≤ q ∧ n ≤ most := by
  by_cases he : e = 0
  · subst he
    simp only [rdV, if_true, vAt] at h
    split at h
    · split at h
      · simp at h
      · refine ⟨rfl, ?_, ?_⟩
        · apply uv_canon (s := s)
          simp only [Prod.mk.injEq, and_true] at h
          exact Prod.ext h.1 (Prod.ext h.2 (by assumption))
        · simp only [Prod.mk.injEq, and_true] at h
          omega
    · simp only [Prod.mk.injEq] at h
      exact absurd h.2.2 (by assumption)
  · rw [rdV_err s p most e he] at h
    simp only [Prod.mk.injEq] at h
    exact absurd h.2.2 he
theorem rdT_canon {s t : List UInt8} {p q most : Nat} {e : Int} (h : rdT s p e most = (t, q, 0)) : e = 0 ∧ p + (vb t.length).length + t.length ≤ q ∧ t.length ≤ most := by
  simp only [rdT] at h
  split at h
  · split at h
    · simp at h
    · simp only [Prod.mk.injEq, and_true] at h
      obtain ⟨ht, hq⟩ := h
      have hr : rdV s p e most = ((rdV s p e most).1, (rdV s p e most).2.1, 0) := Prod.ext rfl (Prod.ext rfl (by assumption))
      have hc := rdV_canon hr
      have hl : t.length = (rdV s p e most).1 := by
        rw [← ht, List.length_take, List.length_drop]; omega
      refine ⟨hc.1, ?_, ?_⟩
      · rw [hl]; omega
      · rw [hl]; exact hc.2.2
  · simp only [Prod.mk.injEq] at h
    exact absurd h.2.2 (by assumption)
theorem rdB_canon {s : List UInt8} {p q n : Nat} {e : Int} (h : rdB s p e = (n, q, 0)) : e = 0 ∧ p + 1 = q := by
  simp only [rdB] at h
  split at h
  · split at h
    · simp at h
    · simp only [Prod.mk.injEq, and_true] at h
      exact ⟨by assumption, h.2⟩
  · simp only [Prod.mk.injEq] at h
    exact absurd h.2.2 (by assumption)
/-! ### readers in a row -/
abbrev Rd (α : Type) := List UInt8 → Nat → Int → α × Nat × Int
/-- What is written so is read as x; cut short it is short. -/
structure Codec {α : Type} (P : Rd α) (x : α) (bs : List UInt8) : Prop where
  full : ∀ pre rest, P (pre ++ (bs ++ rest)) pre.length 0 = (x, pre.length + bs.length, 0)
  cut : ∀ pre j, j < bs.length → (P (pre ++ bs.take j) pre.length 0).2.2 = 8
def Sticky {α : Type} (P : Rd α) : Prop := ∀ s p e, e ≠ 0 → (P s p e).2.2 = e
/-- What is read well holds, and is no longer, written. -/
def Canon {α : Type} (P : Rd α) (enc : α → List UInt8) (ok : α → Prop) : Prop := ∀ s p e x q, P s p e = (x, q, 0) → e = 0 ∧ p + (enc x).length ≤ q ∧ ok x
/-- One behind the other. -/
def seqR {α β : Type} (P : Rd α) (Q : Rd β) : Rd (α × β) := fun s p e =>
  (((P s p e).1, (Q s (P s p e).2.1 (P s p e).2.2).1), (Q s (P s p e).2.1 (P s p e).2.2).2.1, (Q s (P s p e).2.1 (P s p e).2.2).2.2)
theorem Sticky.seq {α β : Type} {P : Rd α} {Q : Rd β} (h : Sticky P) (k : Sticky Q) : Sticky (seqR P Q) := fun s p e he => by
  have h1 := h s p e he
  show (Q s (P s p e).2.1 (P s p e).2.2).2.2 = e
  rw [h1]
  exact k s _ e he
theorem Codec.seq {α β : Type} {P : Rd α} {Q : Rd β} {x : α} {y : β} {bs cs : List UInt8} (h : Codec P x bs) (k : Codec Q y cs) (hk : Sticky Q) : Codec (seqR P Q) (x, y) (bs ++ cs) where
  full pre rest := by
    have h1 := h.full pre (cs ++ rest)
    have h2 := k.full (pre ++ bs) rest
    simp only [seqR, List.append_assoc] at *
    rw [h1]
    simp only
    rw [List.length_append] at h2
    rw [h2]
    simp [Nat.add_assoc]
  cut pre j hj := by
    show (Q _ (P _ _ 0).2.1 (P _ _ 0).2.2).2.2 = 8
    by_cases c : j < bs.length
    · have e : (bs ++ cs).take j = bs.take j := by rw [List.take_append_of_le_length (by omega)]
      rw [e, h.cut pre j c]
      exact hk _ _ 8 (by decide)
    · obtain ⟨m, rfl⟩ : ∃ m, j = bs.length + m := ⟨j - bs.length, by omega⟩
      have e : (bs ++ cs).take (bs.length + m) = bs ++ cs.take m := by
        rw [List.take_append, Nat.add_sub_cancel_left, List.take_of_length_le (by omega)]
      have h1 := h.full pre (cs.take m)
      have h2 := k.cut (pre ++ bs) m (by simp only [List.length_append] at hj; omega)
      rw [e, h1]
      simp only
      rw [List.append_assoc, List.length_append] at h2
      exact h2
theorem Canon.seq {α β : Type} {P : Rd α} {Q : Rd β} {en : α → List UInt8} {em : β → List UInt8} {ok : α → Prop} {ol : β → Prop} (h : Canon P en ok) (k : Canon Q em ol) :
    Canon (seqR P Q) (fun x => en x.1 ++ em x.2) (fun x => ok x.1 ∧ ol x.2) := by
  rintro s p e ⟨x, y⟩ q hr
  simp only [seqR, Prod.mk.injEq] at hr
  obtain ⟨⟨hx, hy⟩, hq, he⟩ := hr
  have h2 := k s _ _ y q (Prod.ext hy (Prod.ext hq he))
  have h1 := h s p e x _ (Prod.ext hx (Prod.ext rfl h2.1))
  refine ⟨h1.1, ?_, h1.2.2, h2.2.2⟩
  have a1 : p + (en x).length ≤ (P s p e).2.1 := h1.2.1
  have a2 : (P s p e).2.1 + (em y).length ≤ q := h2.2.1
  simp only [List.length_append]
  generalize (P s p e).2.1 = n at *
  omega
theorem rdV_codec {n most : Nat} (h : n ≤ most) (hm : most < 18446744073709551616) : Codec (fun s p e => rdV s p e most) n (vb n) where
  full pre rest := rdV_vb pre rest n most h hm
  cut pre j hj := by simp only [rdV_cut pre n most j h hm hj]
theorem rdV_sticky (most : Nat) : Sticky (fun s p e => rdV s p e most) := fun s p e he => by simp only [rdV_err s p most e he]
theorem rdV_canonP (most : Nat) : Canon (fun s p e => rdV s p e most) vb (fun n => n ≤ most) := fun _ _ _ _ _ h => rdV_canon h
def tb (t : List UInt8) : List UInt8 := vb t.length ++ t
theorem rdT_codec {t : List UInt8} {most : Nat} (h : t.length ≤ most) (hm : most < 18446744073709551616) : Codec (fun s p e => rdT s p e most) t (tb t) where
  full pre rest := by
    have := rdT_txt pre rest t most h hm
    unfold tb
    rw [List.append_assoc, this, List.length_append, Nat.add_assoc]
  cut pre j hj := by
    have := rdT_cut pre t most j h hm hj
    unfold tb
    simp only [this]
theorem rdT_sticky (most : Nat) : Sticky (fun s p e => rdT s p e most) := fun s p e he => by simp only [rdT_err s p most e he]
theorem rdT_canonP (most : Nat) : Canon (fun s p e => rdT s p e most) tb (fun t => t.length ≤ most) := fun _ _ _ _ _ h => by
  have := rdT_canon h
  refine ⟨this.1, ?_, this.2.2⟩
  unfold tb
  rw [List.length_append]
  omega
theorem rdB_codec (b : UInt8) : Codec rdB b.toNat [b] where
  full pre rest := rdB_at pre rest b
  cut pre j hj := by
    obtain rfl : j = 0 := by simpa using hj
    simp only [List.take_zero, List.append_nil, rdB_end]
theorem rdB_sticky : Sticky rdB := fun s p e he => by simp only [rdB_err s p e he]
theorem rdB_canonP : Canon rdB (fun n => [UInt8.ofNat n]) (fun n => n < 256) := fun s p e x q h => by
  have := rdB_canon h
  refine ⟨this.1, by simp; omega, ?_⟩
  simp only [rdB] at h
  split at h
  · split at h
    · simp at h
    · simp only [Prod.mk.injEq] at h
      rw [← h.1]
      exact UInt8.toNat_lt _
  · simp only [Prod.mk.injEq] at h
    exact absurd h.2.2 (by assumption)
/-! ### records, plainly -/
structure Rc where
  rep : List UInt8
  ep : Int
  tm : Int
  gone : Bool
deriving DecidableEq
structure Tn where
  live : Int
  ep : Int
deriving DecidableEq
def noRc : Rc := ⟨[], 0, 0, false⟩
def noTn : Tn := ⟨0, 0⟩
def Rc.may (r : Rc) : Bool := mayRec ⟨r.rep.toArray⟩ r.ep r.tm
def Tn.may (t : Tn) : Bool := mayTen t.live t.ep
def Rc.bytes (r : Rc) : List UInt8 := tb r.rep ++ (vb r.ep.toNat ++ (vb r.tm.toNat ++ [if r.gone then 1 else 0]))
def Tn.bytes (t : Tn) : List UInt8 := vb t.live.toNat ++ vb t.ep.toNat
def recR : Rd (List UInt8 × Nat × Nat × Nat) := seqR (fun s p e => rdT s p e 24) (seqR (fun s p e => rdV s p e 1099511627776) (seqR (fun s p e => rdV s p e 1125899906842624) rdB))
def tenR : Rd (Nat × Nat) := seqR (fun s p e => rdV s p e 1048576) (fun s p e => rdV s p e 1099511627776)
def decRc (s : List UInt8) : Rc × Int :=
  let d := recR s 0 0
  let r : Rc := ⟨d.1.1, d.1.2.1, d.1.2.2.1, decide (d.1.2.2.2 = 1)⟩
  if d.2.2 ≠ 0 then (noRc, d.2.2) else if d.2.1 < s.length ∨ 1 < d.1.2.2.2 ∨ r.may = false then (noRc, 4) else (r, 0)
def decTn (s : List UInt8) : Tn × Int :=
  let d := tenR s 0 0
  let t : Tn := ⟨d.1.1, d.1.2⟩
  if d.2.2 ≠ 0 then (noTn, d.2.2) else if d.2.1 < s.length ∨ t.may = false then (noTn, 4) else (t, 0)
theorem may_bd {r : Rc} (h : r.may = true) : 1 ≤ r.ep ∧ r.ep ≤ 1099511627776 ∧ 0 ≤ r.tm ∧ r.tm ≤ 1125899906842624 ∧ r.rep.length ≤ 24 ∧ isName r.rep = true := by
  have := mayRec_bd h
  rw [Lib.size_eq] at this
  exact this
theorem recR_codec {r : Rc} (h : r.may = true) : Codec recR (r.rep, r.ep.toNat, r.tm.toNat, (if r.gone then 1 else 0)) r.bytes := by
  obtain ⟨h1, h2, h3, h4, h5, _⟩ := may_bd h
  have hb : Codec rdB (if r.gone then 1 else 0) [if r.gone then 1 else 0] := by
    cases r.gone
    · exact rdB_codec 0
    · exact rdB_codec 1
  exact (rdT_codec h5 (by omega)).seq ((rdV_codec (by omega) (by omega)).seq ((rdV_codec (by omega) (by omega)).seq hb rdB_sticky) ((rdV_sticky _).seq rdB_sticky)) ((rdV_sticky _).seq ((rdV_sticky _).seq rdB_sticky))
theorem tenR_codec {t : Tn} (h : t.may = true) : Codec tenR (t.live.toNat, t.ep.toNat) t.bytes := by
  obtain ⟨h1, h2, h3, h4, h5⟩ := mayTen_bd h
  exact (rdV_codec (by omega) (by omega)).seq (rdV_codec (by omega) (by omega)) (rdV_sticky _)
theorem decRc_full {r : Rc} (h : r.may = true) (more : List UInt8) : decRc (r.bytes ++ more) = if more = [] then (r, 0) else (noRc, 4) := by
  obtain ⟨h1, h2, h3, h4, h5, _⟩ := may_bd h
  have hc := (recR_codec h).full [] more
  simp only [List.nil_append, List.length_nil, Nat.zero_add] at hc
  have e1 : ((r.ep.toNat : Nat) : Int) = r.ep := by omega
  have e2 : ((r.tm.toNat : Nat) : Int) = r.tm := by omega
  have e3 : (⟨r.rep, ((r.ep.toNat : Nat) : Int), ((r.tm.toNat : Nat) : Int), decide ((if r.gone = true then 1 else 0) = 1)⟩ : Rc) = r := by
    rw [e1, e2]
    cases r with
    | mk a b c g => cases g <;> rfl
  have e4 : ¬ 1 < (if r.gone = true then 1 else 0) := by split <;> omega
  simp only [decRc, hc, e3, ne_eq, not_true_eq_false, if_false, h, e4, false_or, List.length_append]
  cases more with
  | nil => simp
  | cons b l => simp
theorem decTn_full {t : Tn} (h : t.may = true) (more : List UInt8) : decTn (t.bytes ++ more) = if more = [] then (t, 0) else (noTn, 4) := by
  obtain ⟨h1, h2, h3, h4, h5⟩ := mayTen_bd h
  have hc := (tenR_codec h).full [] more
  simp only [List.nil_append, List.length_nil, Nat.zero_add] at hc
  have e3 : (⟨((t.live.toNat : Nat) : Int), ((t.ep.toNat : Nat) : Int)⟩ : Tn) = t := by
    cases t with
    | mk a b => simp only at *; congr 1 <;> omega
  simp only [decTn, hc, e3, ne_eq, not_true_eq_false, if_false, h, List.length_append]
  cases more with
  | nil => simp
  | cons b l => simp
theorem decRc_cut {r : Rc} (h : r.may = true) {j : Nat} (hj : j < r.bytes.length) : decRc (r.bytes.take j) = (noRc, 8) := by
  have hc := (recR_codec h).cut [] j hj
  simp only [List.nil_append, List.length_nil] at hc
  simp only [decRc, hc]
  rfl
theorem decTn_cut {t : Tn} (h : t.may = true) {j : Nat} (hj : j < t.bytes.length) : decTn (t.bytes.take j) = (noTn, 8) := by
  have hc := (tenR_codec h).cut [] j hj
  simp only [List.nil_append, List.length_nil] at hc
  simp only [decTn, hc]
  rfl
theorem decRc_ok {s : List UInt8} {r : Rc} (h : decRc s = (r, 0)) : r.may = true ∧ r.bytes.length ≤ s.length := by
  have hcan : Canon recR _ _ := (rdT_canonP 24).seq ((rdV_canonP 1099511627776).seq ((rdV_canonP 1125899906842624).seq rdB_canonP))
  have hb : (recR s 0 0).2.1 ≤ s.length := by
    have b1 := rdT_bd (s := s) (p := 0) (by omega) 0 24
    have b2 := rdV_bd b1.1 (rdT s 0 0 24).2.2 1099511627776
    have b3 := rdV_bd b2.1 (rdV s (rdT s 0 0 24).2.1 (rdT s 0 0 24).2.2 1099511627776).2.2 1125899906842624
    exact (rdB_bd b3.1 _).1
  simp only [decRc] at h
  by_cases c1 : (recR s 0 0).2.2 = 0
  · rw [if_neg (by simpa using c1)] at h
    split at h
    · simp at h
    · rename_i c2
      simp only [Prod.mk.injEq, and_true] at h
      obtain ⟨c3, c4, c5⟩ : ¬ (recR s 0 0).2.1 < s.length ∧ ¬ 1 < (recR s 0 0).1.2.2.2 ∧ _ := by
        refine ⟨fun c => c2 (Or.inl c), fun c => c2 (Or.inr (Or.inl c)), fun c => c2 (Or.inr (Or.inr c))⟩
      rw [h] at c5
      refine ⟨by simpa using c5, ?_⟩
      have hk := hcan s 0 0 (recR s 0 0).1 (recR s 0 0).2.1 (Prod.ext rfl (Prod.ext rfl c1))
      have hl := hk.2.1
      rw [← h]
      generalize (recR s 0 0).2.1 = n at *
      generalize (recR s 0 0).1 = v at *
      simp only [Rc.bytes, List.length_append, Int.toNat_natCast] at hl ⊢
      simp at hl ⊢
      omega
  · rw [if_pos (by simpa using c1)] at h
    simp only [Prod.mk.injEq] at h
    exact absurd h.2 c1
theorem decTn_ok {s : List UInt8} {t : Tn} (h : decTn s = (t, 0)) : t.may = true ∧ t.bytes.length ≤ s.length := by
  have hcan : Canon tenR _ _ := (rdV_canonP 1048576).seq (rdV_canonP 1099511627776)
  have hb : (tenR s 0 0).2.1 ≤ s.length := by
    have b1 := rdV_bd (s := s) (p := 0) (by omega) 0 1048576
    exact (rdV_bd b1.1 (rdV s 0 0 1048576).2.2 1099511627776).1
  simp only [decTn] at h
  by_cases c1 : (tenR s 0 0).2.2 = 0
  · rw [if_neg (by simpa using c1)] at h
    split at h
    · simp at h
    · rename_i c2
      simp only [Prod.mk.injEq, and_true] at h
      obtain ⟨c3, c5⟩ : ¬ (tenR s 0 0).2.1 < s.length ∧ _ := by
        refine ⟨fun c => c2 (Or.inl c), fun c => c2 (Or.inr c)⟩
      rw [h] at c5
      refine ⟨by simpa using c5, ?_⟩
      have hk := hcan s 0 0 (tenR s 0 0).1 (tenR s 0 0).2.1 (Prod.ext rfl (Prod.ext rfl c1))
      have hl := hk.2.1
      rw [← h]
      generalize (tenR s 0 0).2.1 = n at *
      generalize (tenR s 0 0).1 = v at *
      simp only [Tn.bytes, List.length_append, Int.toNat_natCast] at hl ⊢
      omega
  · rw [if_pos (by simpa using c1)] at h
    simp only [Prod.mk.injEq] at h
    exact absurd h.2 c1
theorem bytes_rec (r : Rc) : nb (recBytes ⟨r.rep.toArray⟩ r.ep r.tm r.gone) = r.bytes := by
  unfold recBytes txt Rc.bytes tb vb
  simp only [nb_append, nb_bytesOf, List.append_assoc, Lib.size_eq]
  cases r.gone <;> rfl
theorem bytes_ten (t : Tn) : nb (tenBytes t.live t.ep) = t.bytes := by
  unfold tenBytes Tn.bytes vb
  rw [nb_append]
theorem rc_len {r : Rc} (h : r.may = true) : r.bytes.length ≤ 128 := by
  obtain ⟨h1, h2, h3, h4, h5, _⟩ := may_bd h
  have a := vb_le (n := r.rep.length) (k := 1) (by omega) (by omega)
  have b := vb_le (n := r.ep.toNat) (k := 10) (by omega) (by omega)
  have c := vb_le (n := r.tm.toNat) (k := 10) (by omega) (by omega)
  unfold Rc.bytes tb
  simp only [List.length_append, List.length_singleton]
  omega
theorem tn_len {t : Tn} (h : t.may = true) : t.bytes.length ≤ 128 := by
  obtain ⟨h1, h2, h3, h4, h5⟩ := mayTen_bd h
  have b := vb_le (n := t.live.toNat) (k := 10) (by omega) (by omega)
  have c := vb_le (n := t.ep.toNat) (k := 10) (by omega) (by omega)
  unfold Tn.bytes
  simp only [List.length_append]
  omega
theorem rc_pos {r : Rc} : 0 < r.bytes.length := by unfold Rc.bytes; simp only [List.length_append, List.length_singleton]; omega
theorem tn_pos {t : Tn} : 0 < t.bytes.length := by
  have := vb_pos t.live.toNat
  unfold Tn.bytes; simp only [List.length_append]; omega
end Go.Proofs.Ytobanhbjkomieaa.RP
