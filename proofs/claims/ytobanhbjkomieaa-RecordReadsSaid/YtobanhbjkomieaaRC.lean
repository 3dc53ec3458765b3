import Derived.Test.YtobanhbjkomieaaRB
import Derived.Test.YtobanhbjkomieaaPRdx
namespace Go.Proofs.Ytobanhbjkomieaa.RP
open Go.RowKit Go.Proofs.Ytobanhbjkomieaa.PAll Go.Proofs.Ytobanhbjkomieaa.KP Go.Proofs.Ytobanhbjkomieaa.BP Go.Proofs.YtobanhbjkomieaaW.PrintWords Go.Proofs.YtobanhbjkomieaaW.PrintLast Go.Proofs.YtobanhbjkomieaaW.PrintMore
open Go.Proofs.Ytobanhbjkomieaa.PRd (rv uv uv_bad uv_ok next_lt pow_le8 next_lt9)
/-! ### varints, read: what the readers compute -/
def c3 (r : Nat × Nat × Int) : Int × Int × Int := (r.1, r.2.1, r.2.2)
theorem wrap_nat {n : Nat} (h : n < 18446744073709551616) : IntKind.u64.wrap (n : Int) = n := by rw [IntKind.wrap_u64]; omega
theorem step_val {i acc b : Nat} (hb : acc + 128 ^ i * (b % 128) < 18446744073709551616) (h256 : b < 256) :
    IntKind.u64.wrap ((acc : Int) + IntKind.u64.wrap (((128 ^ i : Nat) : Int) * IntKind.u64.wrap (Int.tmod (b : Int) 128))) = ((acc + 128 ^ i * (b % 128) : Nat) : Int) := by
  have e1 : Int.tmod (b : Int) 128 = ((b % 128 : Nat) : Int) := by rw [Int.tmod_eq_emod_of_nonneg (by omega)]; omega
  rw [e1, wrap_nat (by omega), ← Int.natCast_mul, wrap_nat (by omega), ← Int.natCast_add, wrap_nat hb]
theorem pow_wrap {i : Nat} (h : i < 9) : IntKind.u64.wrap (((128 ^ i : Nat) : Int) * 128) = ((128 ^ (i + 1) : Nat) : Int) := by
  have := pow_le8 h
  rw [show (((128 ^ i : Nat) : Int) * 128) = ((128 ^ i * 128 : Nat) : Int) by simp, wrap_nat (by omega), Nat.pow_succ]
theorem read_l0 (l : List UInt8) (hl : l.length ≤ 140737488351232) : ∀ (d i acc : Nat), i + d = l.length → i ≤ 9 → acc < 128 ^ i →
    Ev (fun k => batonref01_Read.l0 k ⟨l.toArray⟩ (acc : Int) ((128 ^ i : Nat) : Int) (i : Int)) (c3 (rv i acc (l.drop i)))
  | 0, i, acc, h, hi, ha => by
    refine Ev.step (f := fun _ => some (c3 (0, 0, 8))) (fun k => ?_) ?_
    · simp only [batonref01_Read.l0]
      rw [if_pos (by rw [size_mk]; omega)]
      rfl
    · rw [List.drop_eq_nil_of_le (by omega)]
      exact Ev.now _
  | d + 1, i, acc, h, hi, ha => by
    have hlt : i < l.length := by omega
    have hd : l.drop i = l[i] :: l.drop (i + 1) := List.drop_eq_getElem_cons hlt
    have h256 : l[i].toNat < 256 := l[i].toNat_lt
    have hbt : bt ⟨l.toArray⟩ (i : Int) = (l[i].toNat : Int) := bt_mk l i hlt
    rw [hd, rv]
    generalize l[i].toNat = b at *
    have j1ev : (i = 9 → b ≤ 1) → Ev (fun k => batonref01_Read.j1 k ⟨l.toArray⟩ (acc : Int) ((128 ^ i : Nat) : Int) (i : Int) false) (c3 (if b < 128 then (acc + 128 ^ i * b, i + 1, 0) else rv (i + 1) (acc + 128 ^ i * (b % 128)) (l.drop (i + 1)))) := by
      intro h9
      by_cases hb : b < 128
      · have hv : acc + 128 ^ i * (b % 128) < 18446744073709551616 := by
          by_cases c : i = 9
          · subst c
            have := h9 rfl
            rw [Nat.mod_eq_of_lt hb]
            omega
          · exact next_lt9 (by omega) ha (by omega)
        refine Ev.step (f := fun _ => some (c3 (acc + 128 ^ i * b, i + 1, 0))) (fun k => ?_) ?_
        · simp only [batonref01_Read.j1]
          rw [if_neg (by decide), if_pos (by omega), if_pos (by rw [size_mk]; omega), hbt, if_pos (by omega), step_val hv h256, wrap_succ (by omega) (by omega), Nat.mod_eq_of_lt hb]
          rfl
        · rw [if_pos hb]
          exact Ev.now _
      · have hi9 : i < 9 := by
          by_cases c : i = 9
          · have := h9 c; omega
          · omega
        refine Ev.step (f := fun k => batonref01_Read.l0 k ⟨l.toArray⟩ ((acc + 128 ^ i * (b % 128) : Nat) : Int) ((128 ^ (i + 1) : Nat) : Int) ((i + 1 : Nat) : Int)) (fun k => ?_) ?_
        · simp only [batonref01_Read.j1]
          rw [if_neg (by decide), if_pos (by omega), if_pos (by rw [size_mk]; omega), hbt, if_neg (by omega), step_val (next_lt9 hi9 ha (by omega)) h256, wrap_succ (by omega) (by omega), pow_wrap hi9]
          rfl
        · rw [if_neg hb]
          exact read_l0 l hl d (i + 1) _ (by omega) (by omega) (next_lt ha (by omega))
    by_cases c9 : i = 9
    · by_cases c1 : 1 < b
      · rw [if_pos ⟨c9, c1⟩]
        refine Ev.step (f := fun k => batonref01_Read.j1 k ⟨l.toArray⟩ (acc : Int) ((128 ^ i : Nat) : Int) (i : Int) true) (fun k => ?_) ?_
        · simp only [batonref01_Read.l0]
          rw [if_neg (by rw [size_mk]; omega), if_pos (by omega), if_pos (by omega), if_pos (by rw [size_mk]; omega), hbt, decide_eq_true (by omega)]
        · refine Ev.step (f := fun _ => some (c3 (0, 0, 4))) (fun k => ?_) (Ev.now _)
          simp only [batonref01_Read.j1]
          rfl
      · rw [if_neg (by omega)]
        refine Ev.step (f := fun k => batonref01_Read.j1 k ⟨l.toArray⟩ (acc : Int) ((128 ^ i : Nat) : Int) (i : Int) false) (fun k => ?_) (j1ev (by omega))
        simp only [batonref01_Read.l0]
        rw [if_neg (by rw [size_mk]; omega), if_pos (by omega), if_pos (by omega), if_pos (by rw [size_mk]; omega), hbt, decide_eq_false (by omega)]
    · rw [if_neg (by omega)]
      refine Ev.step (f := fun k => batonref01_Read.j1 k ⟨l.toArray⟩ (acc : Int) ((128 ^ i : Nat) : Int) (i : Int) false) (fun k => ?_) (j1ev (by omega))
      simp only [batonref01_Read.l0]
      rw [if_neg (by rw [size_mk]; omega), if_neg (by omega)]
/-- How far a varint goes. -/
theorem rv_bd : ∀ (l : List UInt8) (i acc : Nat), (rv i acc l).2.1 ≤ i + l.length
  | [], i, acc => by simp [rv]
  | b :: l, i, acc => by
    have ih := rv_bd l (i + 1) (acc + 128 ^ i * (b.toNat % 128))
    rw [rv]
    split
    · simp
    · split
      · simp
      · simp only [List.length_cons]; omega
theorem uv_bd {s : List UInt8} {p : Nat} (hp : p ≤ s.length) : (uv s p).2.1 ≤ s.length := by
  have := rv_bd (s.drop p) 0 0
  rw [List.length_drop] at this
  simp only [uv]
  split
  · simp only; omega
  · simp
theorem refUvarint_ev (l : List UInt8) (hl : l.length ≤ 140737488351232) (p : Nat) (hp : p ≤ l.length) : Ev (fun k => batonref01_Uvarint.f k ⟨l.toArray⟩ (p : Int)) (c3 (uv l p)) := by
  refine Ev.congr (f := fun k => batonref01_Uvarint.j0 k ⟨l.toArray⟩ (p : Int) false) (fun k => ?_) ?_
  · simp only [batonref01_Uvarint.f]
    rw [if_neg (by omega), decide_eq_false (by rw [size_mk]; omega)]
  · refine Ev.step (f := fun k => (batonref01_Read.f k ⟨(l.drop p).toArray⟩).bind fun t => if t.2.2 = 0 then some (t.1, wrap64 ((p : Int) + t.2.1), 0) else some (0, 0, t.2.2)) (fun k => ?_) ?_
    · have e : (⟨l.toArray⟩ : ByteArray).extract (p : Int).toNat (⟨l.toArray⟩ : ByteArray).size = ⟨(l.drop p).toArray⟩ := by
        apply WideShapes.bytes_inj
        simp [size_mk]
        exact List.take_of_length_le (by simp)
      simp only [batonref01_Uvarint.j0]
      rw [if_neg (by decide), if_pos (by omega), if_pos (by rw [size_mk]; omega), e]
    · have h := read_l0 (l.drop p) (by simp; omega) (l.drop p).length 0 0 (by omega) (by omega) (by simp)
      have hb := rv_bd (l.drop p) 0 0
      rw [List.length_drop] at hb
      refine Ev.bind (a := c3 (rv 0 0 (l.drop p))) h ?_
      simp only [uv]
      generalize rv 0 0 (l.drop p) = r at *
      obtain ⟨x, y, e⟩ := r
      by_cases c : e = 0
      · subst c
        have : wrap64 ((p : Int) + (y : Int)) = ((p + y : Nat) : Int) := by simp only at hb; unfold wrap64; omega
        simp only [c3, if_true, this]
        exact Ev.now _
      · simp only [c3, if_neg c]
        exact Ev.congr (f := fun _ => some ((0 : Int), (0 : Int), e)) (fun k => if_neg c) (Ev.now _)
/-! ### the readers: number, place, error -/
def vAt (s : List UInt8) (p most : Nat) : Nat × Nat × Int := if (uv s p).2.2 = 0 then (if most < (uv s p).1 then (0, p, 40) else ((uv s p).1, (uv s p).2.1, 0)) else (0, p, (uv s p).2.2)
def rdV (s : List UInt8) (p : Nat) (e : Int) (most : Nat) : Nat × Nat × Int := if e = 0 then vAt s p most else (0, p, e)
def rawAt (s : List UInt8) (p : Nat) (e : Int) (n : Nat) : List UInt8 × Nat × Int := if e = 0 then (if s.length < p + n then ([], p, 8) else ((s.drop p).take n, p + n, 0)) else ([], p, e)
def rdT (s : List UInt8) (p : Nat) (e : Int) (most : Nat) : List UInt8 × Nat × Int :=
  let v := rdV s p e most
  if v.2.2 = 0 then (if s.length < v.2.1 + v.1 then ([], p, 8) else ((s.drop v.2.1).take v.1, v.2.1 + v.1, 0)) else ([], v.2.1, v.2.2)
def rdB (s : List UInt8) (p : Nat) (e : Int) : Nat × Nat × Int := if e = 0 then (match s.drop p with | [] => (0, p, 8) | b :: _ => (b.toNat, p + 1, 0)) else (0, p, e)
theorem rdV_bd {s : List UInt8} {p : Nat} (hp : p ≤ s.length) (e : Int) (most : Nat) : (rdV s p e most).2.1 ≤ s.length ∧ (rdV s p e most).1 ≤ most := by
  have := uv_bd hp
  simp only [rdV, vAt]
  repeat' split
  all_goals simp
  all_goals omega
/-- A reader's answer, as its contract has it. -/
def cV (s : ByteArray) (r : Nat × Nat × Int) : Int × ByteArray × Int × Int := (r.1, s, r.2.1, r.2.2)
def cT (s : ByteArray) (r : List UInt8 × Nat × Int) : ByteArray × ByteArray × Int × Int := (⟨r.1.toArray⟩, s, r.2.1, r.2.2)
theorem refV_ev (l : List UInt8) (hl : l.length ≤ 140737488351232) (p : Nat) (hp : p ≤ l.length) (e : Int) (most : Nat) :
    Ev (fun k => batonref01_Reader_Varint.f k ⟨l.toArray⟩ (p : Int) e (most : Int)) (cV ⟨l.toArray⟩ (rdV l p e most)) := by
  unfold batonref01_Reader_Varint.f rdV
  by_cases he : e = 0
  · subst he
    simp only [if_true]
    refine Ev.bind (refUvarint_ev l hl p hp) ?_
    unfold vAt c3
    by_cases h0 : (uv l p).2.2 = 0
    · simp only [if_pos h0]
      by_cases h1 : most < (uv l p).1
      · rw [if_pos h1, if_pos (by omega)]
        exact Ev.now _
      · rw [if_neg h1, if_neg (by omega)]
        exact Ev.now _
    · simp only [if_neg h0]
      exact Ev.now _
  · simp only [if_neg he]
    exact Ev.now _
theorem v_ev (l : List UInt8) (hl : l.length ≤ 140737488351232) (p : Nat) (hp : p ≤ l.length) (e : Int) (most : Nat) :
    Ev (fun k => PRd.bits_Reader_Varint.f k ⟨l.toArray⟩ (p : Int) e (most : Int)) (cV ⟨l.toArray⟩ (rdV l p e most)) := by
  unfold PRd.bits_Reader_Varint.f rdV
  simp only [PRd.bits_Reader_good.f, Option.bind_some]
  by_cases he : e = 0
  · subst he
    simp only [decide_true, if_true]
    have hu : PRd.bits_Uvarint.f ⟨l.toArray⟩ (p : Int) = some (c3 (uv l p)) := by
      unfold PRd.bits_Uvarint.f
      rw [if_pos (by omega), if_pos (by rw [size_mk]; omega), if_pos (by rw [size_mk]; omega)]
      simp [c3]
    simp only [hu, Option.bind_some]
    unfold vAt c3
    by_cases h0 : (uv l p).2.2 = 0
    · simp only [if_pos h0]
      by_cases h1 : most < (uv l p).1
      · rw [if_pos h1]
        refine Ev.step (f := fun _ => some (cV ⟨l.toArray⟩ (0, p, 40))) (fun k => ?_) (Ev.now _)
        simp only [PRd.bits_Reader_Varint.j0]
        rw [if_pos (by simp; omega)]
        rfl
      · rw [if_neg h1]
        refine Ev.step (f := fun _ => some (cV ⟨l.toArray⟩ ((uv l p).1, (uv l p).2.1, 0))) (fun k => ?_) (Ev.now _)
        simp only [PRd.bits_Reader_Varint.j0]
        rw [if_neg (by simp; omega), h0]
        rfl
    · simp only [if_neg h0]
      refine Ev.step (f := fun _ => some (cV ⟨l.toArray⟩ (0, p, (uv l p).2.2))) (fun k => ?_) (Ev.now _)
      simp only [PRd.bits_Reader_Varint.j0, PRd.bits_Reader_take.f]
      rw [if_neg (by simp), if_neg h0]
      rfl
  · simp only [decide_eq_false he, if_neg he]
    exact Ev.now _
theorem refRaw_eq (l : List UInt8) (hl : l.length ≤ 140737488351232) (p : Nat) (hp : p ≤ l.length) (e : Int) (n : Nat) (hn : n ≤ 140737488351232) :
    batonref01_Reader_Raw.f ⟨l.toArray⟩ (p : Int) e (n : Int) = some (cT ⟨l.toArray⟩ (rawAt l p e n)) := by
  have e2 : (⟨l.toArray⟩ : ByteArray).extract (p : Int).toNat (p + n) = ⟨((l.drop p).take n).toArray⟩ := by
    apply WideShapes.bytes_inj
    simp
  unfold batonref01_Reader_Raw.f rawAt
  by_cases he : e = 0
  · subst he
    simp only [if_true]
    rw [if_neg (by omega), size_mk]
    have h1 : wrap64 ((l.length : Int) - p) = (l.length : Int) - p := by unfold wrap64; omega
    have h2 : wrap64 ((p : Int) + n) = ((p + n : Nat) : Int) := by unfold wrap64; omega
    rw [h1, h2]
    by_cases c : l.length < p + n
    · rw [if_pos (by omega), if_pos c]
      rfl
    · rw [if_neg (by omega), if_neg c, if_pos (by omega), if_pos (by omega), if_pos (by omega)]
      rw [show (((p + n : Nat) : Int)).toNat = p + n from rfl, e2]
      rfl
  · simp only [if_neg he]
    rfl
theorem raw_eq (l : List UInt8) (hl : l.length ≤ 140737488351232) (p : Nat) (hp : p ≤ l.length) (e : Int) (n : Nat) (hn : n ≤ 140737488351232) :
    PRd.bits_Reader_Raw.f ⟨l.toArray⟩ (p : Int) e (n : Int) = some (cT ⟨l.toArray⟩ (rawAt l p e n)) := by
  have e2 : (⟨l.toArray⟩ : ByteArray).extract (p : Int).toNat (p + n) = ⟨((l.drop p).take n).toArray⟩ := by
    apply WideShapes.bytes_inj
    simp
  unfold PRd.bits_Reader_Raw.f rawAt
  simp only [PRd.bits_Reader_good.f, PRd.bits_Reader_Left.f, Option.bind_some]
  by_cases he : e = 0
  · subst he
    simp only [decide_true, if_true]
    rw [if_neg (by omega), size_mk]
    have h1 : wrap64 ((l.length : Int) - p) = (l.length : Int) - p := by unfold wrap64; omega
    have h2 : wrap64 ((p : Int) + n) = ((p + n : Nat) : Int) := by unfold wrap64; omega
    have h3 : wrap64 (((p + n : Nat) : Int) - n) = (p : Int) := by unfold wrap64; omega
    rw [h1, h2, h3]
    by_cases c : l.length < p + n
    · rw [if_pos (by omega), if_pos c]
      rfl
    · rw [if_neg (by omega), if_neg c, if_pos (by omega), if_pos (by omega), if_pos (by omega)]
      rw [show (((p + n : Nat) : Int)).toNat = p + n from rfl, e2]
      rfl
  · simp only [decide_eq_false he, if_neg he]
    rfl
theorem wrap_mx {m : Nat} (h : m < 9223372036854775808) : IntKind.u64.wrap (mx (m : Int) 0) = (m : Int) := by
  have : mx (m : Int) 0 = (m : Int) := by unfold mx; first | omega | (split <;> omega)
  rw [this, wrap_nat (by omega)]
theorem raw_rdT {l : List UInt8} {p : Nat} {e : Int} {most : Nat} (h0 : (rdV l p e most).2.2 = 0) (h : ¬ l.length < (rdV l p e most).2.1 + (rdV l p e most).1) :
    rawAt l (rdV l p e most).2.1 (rdV l p e most).2.2 (rdV l p e most).1 = rdT l p e most := by
  simp only [rdT, rawAt, if_pos h0, if_neg h]
theorem refT_ev (l : List UInt8) (hl : l.length ≤ 140737488351232) (p : Nat) (hp : p ≤ l.length) (e : Int) (most : Nat) (hm : most ≤ 140737488351232) :
    Ev (fun k => batonref01_Reader_Text.f k ⟨l.toArray⟩ (p : Int) e (most : Int)) (cT ⟨l.toArray⟩ (rdT l p e most)) := by
  obtain ⟨hb, hn⟩ := rdV_bd hp e most
  unfold batonref01_Reader_Text.f
  rw [wrap_mx (by omega)]
  refine Ev.bind (refV_ev l hl p hp e most) ?_
  unfold cV
  by_cases h0 : (rdV l p e most).2.2 = 0
  · simp only [if_pos h0]
    rw [size_mk]
    have h1 : IntKind.u64.wrap (wrap64 ((l.length : Int) - ((rdV l p e most).2.1 : Int))) = ((l.length - (rdV l p e most).2.1 : Nat) : Int) := by
      rw [show wrap64 ((l.length : Int) - ((rdV l p e most).2.1 : Int)) = ((l.length - (rdV l p e most).2.1 : Nat) : Int) by unfold wrap64; omega, wrap_nat (by omega)]
    rw [h1]
    by_cases c : l.length < (rdV l p e most).2.1 + (rdV l p e most).1
    · rw [if_pos (by omega)]
      simp only [rdT, if_pos h0, if_pos c]
      exact Ev.now _
    · rw [if_neg (by omega), show wrap64 ((rdV l p e most).1 : Int) = ((rdV l p e most).1 : Int) by unfold wrap64; omega, refRaw_eq l hl _ hb _ _ (by omega), raw_rdT h0 c]
      exact Ev.now _
  · simp only [rdT, if_neg h0]
    exact Ev.now _
theorem t_ev (l : List UInt8) (hl : l.length ≤ 140737488351232) (p : Nat) (hp : p ≤ l.length) (e : Int) (most : Nat) (hm : most ≤ 140737488351232) :
    Ev (fun k => PRd.bits_Reader_Text.f k ⟨l.toArray⟩ (p : Int) e (most : Int)) (cT ⟨l.toArray⟩ (rdT l p e most)) := by
  obtain ⟨hb, hn⟩ := rdV_bd hp e most
  unfold PRd.bits_Reader_Text.f
  simp only [PRd.bits_Reader_good.f, Option.bind_some]
  by_cases he : e = 0
  · subst he
    simp only [decide_true, if_true]
    rw [wrap_mx (by omega)]
    refine Ev.bind (v_ev l hl p hp 0 most) ?_
    unfold cV
    by_cases h0 : (rdV l p 0 most).2.2 = 0
    · simp only [if_pos h0]
      simp only [PRd.bits_Reader_Left.f, Option.bind_some]
      rw [size_mk]
      have h1 : IntKind.u64.wrap (wrap64 ((l.length : Int) - ((rdV l p 0 most).2.1 : Int))) = ((l.length - (rdV l p 0 most).2.1 : Nat) : Int) := by
        rw [show wrap64 ((l.length : Int) - ((rdV l p 0 most).2.1 : Int)) = ((l.length - (rdV l p 0 most).2.1 : Nat) : Int) by unfold wrap64; omega, wrap_nat (by omega)]
      rw [h1]
      by_cases c : l.length < (rdV l p 0 most).2.1 + (rdV l p 0 most).1
      · rw [decide_eq_true (by omega)]
        refine Ev.step (f := fun _ => some (cT ⟨l.toArray⟩ ([], p, 8))) (fun k => ?_) ?_
        · simp only [PRd.bits_Reader_Text.j0]
          rfl
        · simp only [rdT, if_pos h0, if_pos c]
          exact Ev.now _
      · rw [decide_eq_false (by omega)]
        refine Ev.step (f := fun _ => some (cT ⟨l.toArray⟩ (rdT l p 0 most))) (fun k => ?_) (Ev.now _)
        simp only [PRd.bits_Reader_Text.j0]
        rw [if_neg (by decide), if_pos h0, show wrap64 ((rdV l p 0 most).1 : Int) = ((rdV l p 0 most).1 : Int) by unfold wrap64; omega, raw_eq l hl _ hb _ _ (by omega), raw_rdT h0 c]
        rfl
    · simp only [if_neg h0]
      refine Ev.step (f := fun _ => some (cT ⟨l.toArray⟩ (rdT l p 0 most))) (fun k => ?_) (Ev.now _)
      simp only [PRd.bits_Reader_Text.j0, rdT]
      rw [if_neg (by decide), if_neg h0, if_neg h0]
      rfl
  · simp only [decide_eq_false he]
    have : rdT l p e most = ([], p, e) := by simp only [rdT, rdV, if_neg he]
    rw [this]
    exact Ev.now _
theorem raw_byte (l : List UInt8) (p : Nat) (e : Int) (s : ByteArray) : (if (cT s (rawAt l p e 1)).1.toList = ([] : List UInt8) then some (0, (cT s (rawAt l p e 1)).2.1, (cT s (rawAt l p e 1)).2.2.1, (cT s (rawAt l p e 1)).2.2.2) else (if 0 < ((cT s (rawAt l p e 1)).1.size : Int) then some (bt (cT s (rawAt l p e 1)).1 0, (cT s (rawAt l p e 1)).2.1, (cT s (rawAt l p e 1)).2.2.1, (cT s (rawAt l p e 1)).2.2.2) else none)) = some (cV s (rdB l p e)) := by
  unfold rdB rawAt cT cV
  by_cases he : e = 0
  · simp only [if_pos he]
    cases hd : l.drop p with
    | nil =>
      have : l.length < p + 1 := by have := congrArg List.length hd; simp at this; omega
      simp only [if_pos this]
      rw [toList_mk, if_pos rfl]
      rfl
    | cons b t =>
      have : ¬ l.length < p + 1 := by have := congrArg List.length hd; simp at this; omega
      simp only [if_neg this, List.take_succ_cons, List.take_zero]
      rw [toList_mk, if_neg (by simp), size_mk, if_pos (by simp), show (0 : Int) = ((0 : Nat) : Int) from rfl, bt_mk _ 0 (by simp)]
      rfl
  · simp only [if_neg he]
    rw [toList_mk, if_pos rfl]
    rfl
theorem refB_eq (l : List UInt8) (hl : l.length ≤ 140737488351232) (p : Nat) (hp : p ≤ l.length) (e : Int) : batonref01_Reader_Byte.f ⟨l.toArray⟩ (p : Int) e = some (cV ⟨l.toArray⟩ (rdB l p e)) := by
  unfold batonref01_Reader_Byte.f
  rw [show (1 : Int) = ((1 : Nat) : Int) from rfl, refRaw_eq l hl p hp e 1 (by omega)]
  exact raw_byte l p e _
theorem b_eq (l : List UInt8) (hl : l.length ≤ 140737488351232) (p : Nat) (hp : p ≤ l.length) (e : Int) : PRd.bits_Reader_Byte.f ⟨l.toArray⟩ (p : Int) e = some (cV ⟨l.toArray⟩ (rdB l p e)) := by
  unfold PRd.bits_Reader_Byte.f
  rw [show (1 : Int) = ((1 : Nat) : Int) from rfl, raw_eq l hl p hp e 1 (by omega)]
  exact raw_byte l p e _
theorem rdT_bd {s : List UInt8} {p : Nat} (hp : p ≤ s.length) (e : Int) (most : Nat) : (rdT s p e most).2.1 ≤ s.length ∧ (rdT s p e most).1.length ≤ most := by
  obtain ⟨hb, hn⟩ := rdV_bd hp e most
  simp only [rdT]
  repeat' split
  all_goals simp
  all_goals omega
theorem rdB_bd {s : List UInt8} {p : Nat} (hp : p ≤ s.length) (e : Int) : (rdB s p e).2.1 ≤ s.length ∧ (rdB s p e).1 < 256 := by
  unfold rdB
  split
  · cases hd : s.drop p with
    | nil => simp; omega
    | cons b t =>
      have := congrArg List.length hd
      have h2 := b.toNat_lt
      simp at this ⊢
      omega
  · simp; omega
end Go.Proofs.Ytobanhbjkomieaa.RP
