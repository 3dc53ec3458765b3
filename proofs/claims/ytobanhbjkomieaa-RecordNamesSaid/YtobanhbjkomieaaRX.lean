import Derived.Test.YtobanhbjkomieaaKZ
import Derived.Test.YtobanhbjkomieaaBZ
import Derived.Deep.RegionHeld3
import Derived.Test.YtobanhbjkomieaaPRdx
namespace Go.Proofs.Ytobanhbjkomieaa.RP
open Go.RowKit Go.Proofs.Ytobanhbjkomieaa.PAll Go.Proofs.Ytobanhbjkomieaa.KP Go.Proofs.Ytobanhbjkomieaa.BP Go.Proofs.YtobanhbjkomieaaW.PrintWords Go.Proofs.YtobanhbjkomieaaW.PrintLast Go.Proofs.YtobanhbjkomieaaW.PrintMore
/-! ### records: which may be, their bytes -/
def mayRec (rep : ByteArray) (ep tm : Int) : Bool := isName rep.data.toList && decide (1 ≤ ep ∧ ep ≤ 1099511627776 ∧ 0 ≤ tm ∧ tm ≤ 1125899906842624)
def mayTen (live ep : Int) : Bool := decide (0 ≤ ep ∧ ep ≤ 1099511627776 ∧ 0 ≤ live ∧ live ≤ 1048576 ∧ live ≤ ep)
def recBytes (rep : ByteArray) (ep tm : Int) (gone : Bool) : List Int := txt rep ++ vint ep.toNat ++ vint tm.toNat ++ [if gone then 1 else 0]
def tenBytes (live ep : Int) : List Int := vint live.toNat ++ vint ep.toNat
theorem may_ev (rep : ByteArray) (hs : rep.size ≤ 140737488351232) (ep tm : Int) (gone : Bool) : Ev (fun k => record_May.f k rep ep tm gone) (mayRec rep ep tm) := by
  unfold mayRec
  obtain ⟨⟨l⟩⟩ := rep
  refine Ev.bind (name_ev l (by rw [size_mk] at hs; exact hs)) ?_
  cases h : isName l
  · exact Ev.now _
  · simp only [if_true]
    refine Ev.congr (f := fun _ => some _) (fun k => ?_) (Ev.now _)
    simp only [Bool.true_and]
    repeat' split
    all_goals (congr 1; rw [Bool.eq_iff_iff]; simp; try omega)
theorem refmay_ev (rep : ByteArray) (hs : rep.size ≤ 140737488351232) (ep tm : Int) (gone : Bool) : Ev (fun k => batonref18_May.f k rep ep tm gone) (mayRec rep ep tm) := by
  unfold mayRec
  obtain ⟨⟨l⟩⟩ := rep
  refine Ev.bind (rname_ev l (by rw [size_mk] at hs; exact hs)) ?_
  cases h : isName l
  · exact Ev.now _
  · simp only [if_true]
    refine Ev.congr (f := fun _ => some _) (fun k => ?_) (Ev.now _)
    simp only [Bool.true_and]
    repeat' split
    all_goals (congr 1; rw [Bool.eq_iff_iff]; simp; try omega)
theorem mayten_eq (live ep : Int) : record_MayTenant.f live ep = some (mayTen live ep) := by
  unfold record_MayTenant.f mayTen
  repeat' split
  all_goals (congr 1; rw [Bool.eq_iff_iff]; simp; try omega)
theorem refmayten_eq (live ep : Int) : batonref18_MayTenant.f live ep = some (mayTen live ep) := by
  unfold batonref18_MayTenant.f mayTen
  repeat' split
  all_goals (congr 1; rw [Bool.eq_iff_iff]; simp; try omega)
section
variable (rep : ByteArray) (hs : rep.size ≤ 140737488351232) (ep tm : Int) (gone : Bool) (w : World)
include hs
theorem recMay_any : Calls Try.prog 85 #[.agg #[.string rep, .int .i64 ep, .int .i64 tm, .bool gone]] w fun e w' => e = .returned (.bool (mayRec rep ep tm)) ∧ Below w.heap.size w w' :=
  ev_calls (may_ev rep hs ep tm gone) (fun k h => record_May.calls k _ _ _ _ _ w h)
theorem refRecMay_any : Calls Try.prog 86 #[.agg #[.string rep, .int .i64 ep, .int .i64 tm, .bool gone]] w fun e w' => e = .returned (.bool (mayRec rep ep tm)) ∧ Below w.heap.size w w' :=
  ev_calls (refmay_ev rep hs ep tm gone) (fun k h => batonref18_May.calls k _ _ _ _ _ w h)
end
theorem tenMay_any (live ep : Int) (w : World) : Calls Try.prog 87 #[.agg #[.int .i64 live, .int .i64 ep]] w fun e w' => e = .returned (.bool (mayTen live ep)) ∧ Below w.heap.size w w' :=
  record_MayTenant.calls _ _ _ w (mayten_eq live ep)
theorem refTenMay_any (live ep : Int) (w : World) : Calls Try.prog 88 #[.agg #[.int .i64 live, .int .i64 ep]] w fun e w' => e = .returned (.bool (mayTen live ep)) ∧ Below w.heap.size w w' :=
  batonref18_MayTenant.calls _ _ _ w (refmayten_eq live ep)
theorem strOfNums_append (a b : List Int) : strOfNums a ++ strOfNums b = strOfNums (a ++ b) := by
  apply WideShapes.bytes_inj
  simp [strOfNums]
theorem strOfNums_bytes (s : ByteArray) : strOfNums (bytesOf s) = s := by
  apply WideShapes.bytes_inj
  have e : ((fun n : Int => UInt8.ofNat n.toNat) ∘ fun b : UInt8 => (b.toNat : Int)) = id := by funext b; simp
  simp [strOfNums, bytesOf, e]
set_option maxHeartbeats 8000000 in
set_option maxRecDepth 100000 in
theorem refText_any (s : ByteArray) (hs : s.size ≤ 140737488351232) (w : World) : Calls Try.prog 159 #[.string s] w fun e w' => e = .returned (.string (strOfNums (txt s))) ∧ Below w.heap.size w w' := by
  have hv := refVarint_any 9 s.size
  have HV := Lib.hid hv
  clear hv
  have hl := vint_len10 (n := s.size) (by omega)
  have he : strOfNums (txt s) = strOfNums (vint s.size) ++ s := by
    unfold txt
    rw [← strOfNums_append, strOfNums_bytes]
  rw [he]
  clear he
  have hsum : (strOfNums (vint s.size)).size + s.size ≤ 9223372036854775807 := by rw [strOfNums_size]; omega
  have hsum2 : (9223372036854775807 < (strOfNums (vint s.size)).size + s.size) = False := eq_false (by omega)
  generalize vint s.size = V at *
  go_enter Try.func159, Try.ntmps159
  go_wp2_with fail
  refine (HV.out _ (by omega) (by omega)).mono ?_
  rintro e w1 ⟨rfl, hb1⟩
  go_wp2
  go_ret
  exact ⟨rfl, hb1⟩
theorem txt_len {s : ByteArray} (hs : s.size ≤ 140737488351232) : (txt s).length ≤ s.size + 10 := by
  have := vint_len10 (n := s.size) (by omega)
  unfold txt
  rw [List.length_append, bytesOf_length]
  omega
theorem keep_cell {W x : World} {a : Addr} {v : Value} (hb : Below W.heap.size W x) (h : W.cell? a = some v) : x.cell? a = some v :=
  (hb.cell (p := a) (World.block_lt_of_cell? _ _ h)).trans h
theorem below_next {w W x : World} {m : Nat} (h : Below w.heap.size w W) (k : Below (W.drewN m).heap.size (W.drewN m) x) : Below w.heap.size w x := (pw_below_drewN h m).trans (k.mono h.size)
theorem below_next0 {w W x : World} (h : Below w.heap.size w W) (k : Below W.heap.size W x) : Below w.heap.size w x := h.trans (k.mono h.size)
theorem refVarint_at (a : Int) (h0 : 0 ≤ a) (h1 : a < 18446744073709551616) (W : World) : Calls Try.prog 160 #[.int .u64 a] W fun e w' => e = .returned (.string (strOfNums (vint a.toNat))) ∧ Below W.heap.size W w' := by
  obtain ⟨n, rfl⟩ := Int.eq_ofNat_of_zero_le h0
  exact refVarint_any 9 n W (by omega) (by omega)
/-- The reference's Encode. -/
def encRes (rep : ByteArray) (ep tm : Int) (gone : Bool) : Value := if mayRec rep ep tm then .tuple #[.string (strOfNums (recBytes rep ep tm gone)), .int .i64 0] else .tuple #[.string ⟨#[]⟩, .int .i64 4]
def encTenRes (live ep : Int) : Value := if mayTen live ep then .tuple #[.string (strOfNums (tenBytes live ep)), .int .i64 0] else .tuple #[.string ⟨#[]⟩, .int .i64 4]
theorem mayRec_bd {rep : ByteArray} {ep tm : Int} (h : mayRec rep ep tm = true) : 1 ≤ ep ∧ ep ≤ 1099511627776 ∧ 0 ≤ tm ∧ tm ≤ 1125899906842624 ∧ rep.size ≤ 24 ∧ isName rep.data.toList = true := by
  unfold mayRec at h
  rw [Bool.and_eq_true, decide_eq_true_eq] at h
  have := isName_len h.1
  rw [← Lib.size_eq] at this
  exact ⟨h.2.1, h.2.2.1, h.2.2.2.1, h.2.2.2.2, this.2, h.1⟩
theorem mayTen_bd {live ep : Int} (h : mayTen live ep = true) : 0 ≤ ep ∧ ep ≤ 1099511627776 ∧ 0 ≤ live ∧ live ≤ 1048576 ∧ live ≤ ep := of_decide_eq_true h
set_option maxHeartbeats 8000000 in
set_option maxRecDepth 100000 in
theorem refEncodeTen_any (live ep : Int) (w : World) : Calls Try.prog 84 #[.agg #[.int .i64 live, .int .i64 ep]] w fun e w' => e = .returned (encTenRes live ep) ∧ Below w.heap.size w w' := by
  unfold encTenRes
  cases hm : mayTen live ep
  · have hc := refTenMay_any live ep
    rw [hm] at hc
    have HC := Lib.hid hc
    clear hc hm
    simp only [Bool.false_eq_true, if_false]
    go_enter Try.func84, Try.ntmps84
    go_wp2_with fail
    refine (HC.out _).mono ?_
    rintro e w1 ⟨rfl, hb1⟩
    go_wp2
    go_ret2
    exact ⟨rfl, ((Below.refl _ _).alloc (Nat.le_refl _) _).trans (hb1.mono (by simp))⟩
  · have hbd := mayTen_bd hm
    have hc := refTenMay_any live ep
    rw [hm] at hc
    have HC := Lib.hid hc
    clear hc hm
    obtain ⟨n, rfl⟩ := Int.eq_ofNat_of_zero_le hbd.2.2.1
    obtain ⟨m, rfl⟩ := Int.eq_ofNat_of_zero_le hbd.1
    simp only [if_true]
    go_enter Try.func84, Try.ntmps84
    go_wp2_with fail
    refine (HC.out _).mono ?_
    rintro e w1 ⟨rfl, hb1⟩
    go_wp2_with fail
    have c0 : w1.cell? ⟨w.heap.size, 0, none⟩ = some (.int .i64 n) := keep_cell hb1 (by simp)
    have c1 : w1.cell? ⟨w.heap.size, 1, none⟩ = some (.int .i64 m) := keep_cell hb1 (by simp)
    have hl1 := vint_len10 (n := n) (by omega)
    have hl2 := vint_len10 (n := m) (by omega)
    have hsum : (strOfNums (vint n)).size + (strOfNums (vint m)).size ≤ 9223372036854775807 := by rw [strOfNums_size, strOfNums_size]; omega
    have hsum2 : (9223372036854775807 < (strOfNums (vint n)).size + (strOfNums (vint m)).size) = False := eq_false (by omega)
    have HE : Hid (strOfNums (tenBytes n m) = strOfNums (vint n) ++ strOfNums (vint m)) := Lib.hid (by rw [strOfNums_append]; rfl)
    have hbw : Below w.heap.size w w1 := below_next0 ((Below.refl _ _).alloc (Nat.le_refl _) _) hb1
    have hw1 : IntKind.u64.wrap (n : Int) = n := by rw [IntKind.wrap_u64]; omega
    have hw2 : IntKind.u64.wrap (m : Int) = m := by rw [IntKind.wrap_u64]; omega
    go_region_with (go_at_call 160; refine (refVarint_at _ (by omega) (by omega) _).mono ?_; rintro e x5 ⟨rfl, hb5⟩; (try have c0' := keep_cell hb5 c0); (try have c1' := keep_cell hb5 c1); (first | have hbw := below_next0 hbw hb5 | have hbw := below_next hbw hb5))
    all_goals go_wp2
    all_goals go_ret2
    all_goals exact ⟨by rw [HE.out]; rfl, by first | exact hbw | exact pw_below_drewN hbw _⟩
set_option maxHeartbeats 16000000 in
set_option maxRecDepth 100000 in
theorem refEncode_any (rep : ByteArray) (hs : rep.size ≤ 140737488351232) (ep tm : Int) (gone : Bool) (w : World) : Calls Try.prog 82 #[.agg #[.string rep, .int .i64 ep, .int .i64 tm, .bool gone]] w fun e w' => e = .returned (encRes rep ep tm gone) ∧ Below w.heap.size w w' := by
  unfold encRes
  cases hm : mayRec rep ep tm
  · have hc := refRecMay_any rep hs ep tm gone
    rw [hm] at hc
    have HC := Lib.hid hc
    clear hc hm
    simp only [Bool.false_eq_true, if_false]
    go_enter Try.func82, Try.ntmps82
    go_wp2_with fail
    refine (HC.out _).mono ?_
    rintro e w1 ⟨rfl, hb1⟩
    go_wp2
    go_ret2
    exact ⟨rfl, ((Below.refl _ _).alloc (Nat.le_refl _) _).trans (hb1.mono (by simp))⟩
  · have hbd := mayRec_bd hm
    have hc := refRecMay_any rep hs ep tm gone
    rw [hm] at hc
    have HC := Lib.hid hc
    clear hc hm
    obtain ⟨b1, b2, b3, b4, b5, b6⟩ := hbd
    obtain ⟨n, rfl⟩ := Int.eq_ofNat_of_zero_le (show 0 ≤ ep by omega)
    obtain ⟨m, rfl⟩ := Int.eq_ofNat_of_zero_le b3
    have hl1 := vint_len10 (n := n) (by omega)
    have hl2 := vint_len10 (n := m) (by omega)
    have hl0 := txt_len hs
    have HE : Hid (strOfNums (recBytes rep n m gone) = strOfNums (txt rep) ++ strOfNums (vint n) ++ strOfNums (vint m) ++ (if gone then ⟨#[1]⟩ else ⟨#[0]⟩)) := by
      refine Lib.hid ?_
      unfold recBytes
      rw [← strOfNums_append, ← strOfNums_append, ← strOfNums_append]
      cases gone <;> rfl
    have s1 : (strOfNums (txt rep)).size + (strOfNums (vint n)).size ≤ 9223372036854775807 := by rw [strOfNums_size, strOfNums_size]; omega
    have s1' : (9223372036854775807 < (strOfNums (txt rep)).size + (strOfNums (vint n)).size) = False := eq_false (by omega)
    have s2 : (strOfNums (txt rep) ++ strOfNums (vint n)).size + (strOfNums (vint m)).size ≤ 9223372036854775807 := by rw [ByteArray.size_append, strOfNums_size, strOfNums_size, strOfNums_size]; omega
    have s2' : (9223372036854775807 < (strOfNums (txt rep) ++ strOfNums (vint n)).size + (strOfNums (vint m)).size) = False := eq_false (by omega)
    have s3 : (strOfNums (txt rep) ++ strOfNums (vint n) ++ strOfNums (vint m)).size ≤ 1000000 := by rw [ByteArray.size_append, ByteArray.size_append, strOfNums_size, strOfNums_size, strOfNums_size]; omega
    have s4 : (strOfNums (txt rep)).size + (strOfNums (vint n)).size + (strOfNums (vint m)).size ≤ 1000000 := by rw [strOfNums_size, strOfNums_size, strOfNums_size]; omega
    have s4' : (9223372036854775807 < (strOfNums (txt rep)).size + (strOfNums (vint n)).size + (strOfNums (vint m)).size) = False := eq_false (by omega)
    simp only [if_true]
    go_enter Try.func82, Try.ntmps82
    go_wp2_with fail
    refine (HC.out _).mono ?_
    rintro e w1 ⟨rfl, hbb⟩
    go_wp2_with fail
    have c0 : w1.cell? ⟨w.heap.size, 0, none⟩ = some (.string rep) := keep_cell hbb (by simp)
    have c1 : w1.cell? ⟨w.heap.size, 1, none⟩ = some (.int .i64 n) := keep_cell hbb (by simp)
    have c2 : w1.cell? ⟨w.heap.size, 2, none⟩ = some (.int .i64 m) := keep_cell hbb (by simp)
    have c3 : w1.cell? ⟨w.heap.size, 3, none⟩ = some (.bool gone) := keep_cell hbb (by simp)
    have hbw : Below w.heap.size w w1 := below_next0 ((Below.refl _ _).alloc (Nat.le_refl _) _) hbb
    have hw1 : IntKind.u64.wrap (n : Int) = n := by rw [IntKind.wrap_u64]; omega
    have hw2 : IntKind.u64.wrap (m : Int) = m := by rw [IntKind.wrap_u64]; omega
    go_region_held3 (fun W => W.cell? ⟨w.heap.size, 0, none⟩ = some (.string rep) ∧ W.cell? ⟨w.heap.size, 1, none⟩ = some (.int .i64 n) ∧ W.cell? ⟨w.heap.size, 2, none⟩ = some (.int .i64 m) ∧ W.cell? ⟨w.heap.size, 3, none⟩ = some (.bool gone)) (go_keep) (first | (go_at_call 159; refine (refText_any _ hs _).mono ?_; rintro e x5 ⟨rfl, hb5⟩; have d0 := keep_cell (a := ⟨w.heap.size, 0, none⟩) (v := .string rep) hb5 (by simp [*]); have d1 := keep_cell (a := ⟨w.heap.size, 1, none⟩) (v := .int .i64 n) hb5 (by simp [*]); have d2 := keep_cell (a := ⟨w.heap.size, 2, none⟩) (v := .int .i64 m) hb5 (by simp [*]); have d3 := keep_cell (a := ⟨w.heap.size, 3, none⟩) (v := .bool gone) hb5 (by simp [*]); (first | have hbw := below_next0 hbw hb5 | have hbw := below_next hbw hb5)) | (go_at_call 160; refine (refVarint_at _ (by omega) (by omega) _).mono ?_; rintro e x5 ⟨rfl, hb5⟩; have d0 := keep_cell (a := ⟨w.heap.size, 0, none⟩) (v := .string rep) hb5 (by simp [*]); have d1 := keep_cell (a := ⟨w.heap.size, 1, none⟩) (v := .int .i64 n) hb5 (by simp [*]); have d2 := keep_cell (a := ⟨w.heap.size, 2, none⟩) (v := .int .i64 m) hb5 (by simp [*]); have d3 := keep_cell (a := ⟨w.heap.size, 3, none⟩) (v := .bool gone) hb5 (by simp [*]); (first | have hbw := below_next0 hbw hb5 | have hbw := below_next hbw hb5)))
    have s5 : (9223372036854775807 < (strOfNums (txt rep)).size + (strOfNums (vint n)).size + (strOfNums (vint m)).size + 1) = False := eq_false (by omega)
    have HV := Lib.hid hbw
    clear hbw
    cases gone
    · go_wp2
      go_ret2
      exact ⟨by rw [HE.out]; rfl, by first | exact HV.out | exact pw_below_drewN HV.out _⟩
    · go_wp2
      go_ret2
      exact ⟨by rw [HE.out]; rfl, by first | exact HV.out | exact pw_below_drewN HV.out _⟩
end Go.Proofs.Ytobanhbjkomieaa.RP
namespace Go.Proofs.Ytobanhbjkomieaa.RP
open Go.RowKit Go.Proofs.Ytobanhbjkomieaa.PAll Go.Proofs.Ytobanhbjkomieaa.KP Go.Proofs.Ytobanhbjkomieaa.BP Go.Proofs.YtobanhbjkomieaaW.PrintWords Go.Proofs.YtobanhbjkomieaaW.PrintLast Go.Proofs.YtobanhbjkomieaaW.PrintMore
set_option maxHeartbeats 8000000 in
set_option maxRecDepth 100000 in
theorem encPut_any (rep : ByteArray) (n m : Nat) (gone : Bool) (hs : rep.size ≤ 24) (hn : n < 18446744073709551616) (hm : m < 18446744073709551616) (hn0 : n ≤ 1125899906842624) (hm0 : m ≤ 1125899906842624) (w : World) :
    Calls Try.prog 156 #[.slice none 0 0, .agg #[.string rep, .int .i64 n, .int .i64 m, .bool gone]] w fun e w' => ∃ v', e = .returned v' ∧ w'.ownsRow w.heap.size 5 1 v' (recBytes rep n m gone).length (nums .u8 (recBytes rep n m gone)) ∧ Below w.heap.size w w' := by
  obtain ⟨i0, hi, hz0, hz1, hz2⟩ := info_parts info5'
  have hl1 := vint_len10 hn
  have hl2 := vint_len10 hm
  have hl0 := txt_len (s := rep) (by omega)
  have HE : Hid (∀ g : Int, g = (if gone then 1 else 0) → recBytes rep n m gone = txt rep ++ vint n ++ vint m ++ [g]) := by
    refine Lib.hid ?_
    rintro g rfl
    rfl
  have hw1 : IntKind.u64.wrap (n : Int) = n := by rw [IntKind.wrap_u64]; omega
  have hw2 : IntKind.u64.wrap (m : Int) = m := by rw [IntKind.wrap_u64]; omega
  go_enter Try.func156, Try.ntmps156
  go_wp2_with fail
  refine (putText_any (w.heap.size + 1) _ [] rep _ (World.ownsRow_nil _ _ _ _) (by simp) (by simp) (by omega)).mono ?_
  rintro e w1 ⟨v1, rfl, ho1, hb1⟩
  have c1 : w1.cell? ⟨w.heap.size, 1, none⟩ = some (.int .i64 n) := (hb1.cell (p := ⟨w.heap.size, 1, none⟩) (by simp)).trans (by simp)
  have c2 : w1.cell? ⟨w.heap.size, 2, none⟩ = some (.int .i64 m) := (hb1.cell (p := ⟨w.heap.size, 2, none⟩) (by simp)).trans (by simp)
  have c3 : w1.cell? ⟨w.heap.size, 3, none⟩ = some (.bool gone) := (hb1.cell (p := ⟨w.heap.size, 3, none⟩) (by simp)).trans (by simp)
  have z1 := hb1.size
  go_wp2_with fail
  refine (putUvarint_any (w.heap.size + 1) _ _ n _ ho1 (by simp at z1; omega) (by simp; omega) hn).mono ?_
  rintro e w2 ⟨v2, rfl, ho2, hb2⟩
  have d2 : w2.cell? ⟨w.heap.size, 2, none⟩ = some (.int .i64 m) := (hb2.cell (p := ⟨w.heap.size, 2, none⟩) (by simp)).trans c2
  have d3 : w2.cell? ⟨w.heap.size, 3, none⟩ = some (.bool gone) := (hb2.cell (p := ⟨w.heap.size, 3, none⟩) (by simp)).trans c3
  have z2 := hb2.size
  go_wp2_with fail
  refine (putUvarint_any (w.heap.size + 1) _ _ m _ ho2 (by simp at z1; omega) (by simp; omega) hm).mono ?_
  rintro e w3 ⟨v3, rfl, ho3, hb3⟩
  have e3 : w3.cell? ⟨w.heap.size, 3, none⟩ = some (.bool gone) := (hb3.cell (p := ⟨w.heap.size, 3, none⟩) (by simp)).trans d3
  have z3 := hb3.size
  have hB : Below (w.heap.size + 1) (w.alloc (.cells #[.string rep, .int .i64 n, .int .i64 m, .bool gone] 23)) w3 := (hb1.trans hb2).trans hb3
  have hB0 : Below w.heap.size w w3 := ((Below.refl _ _).alloc (Nat.le_refl _) _).trans (hB.mono (by omega))
  have HB0 := Lib.hid hB0
  clear hB hB0 c1 c2 c3 d2 d3 ho1 ho2 hb1 hb2 hb3
  rw [List.nil_append] at ho3
  simp at z1
  generalize hy : txt rep ++ vint n ++ vint m = ys at *
  have hyl : ys.length ≤ 1000 := by rw [← hy]; simp only [List.length_append]; omega
  clear hy
  cases gone
  · go_wp2_with (at_builtin; refine wpList_append_own _ rfl _ _ 178 rfl (w.heap.size + 1) 5 i0 (.int .u8 0) 1 1 Try.underlying178 hi hz0 hz1 hz2 rfl (by decide) _ _ _ rfl (ho3.alloc _) ⟨w3.heap.size, 0, none⟩ 1 1 [.int .u8 0] rfl rfl (cell_one_new _ _ _) (by simp [Value.oneCell']) (by unfold maxLen; omega) (by omega) (by simp; omega) ?_; intro v4 w4 ho4 hg4 _)
    go_ret
    refine ⟨v4, rfl, ?_, (HB0.out.alloc (by omega) _).grown hg4 (by simp; omega) (fun k hk => by have := own_base ho3 k hk; omega)⟩
    rw [HE.out 0 rfl]
    exact own_weaken (by simpa [nums] using ho4) (by omega)
  · go_wp2_with (at_builtin; refine wpList_append_own _ rfl _ _ 178 rfl (w.heap.size + 1) 5 i0 (.int .u8 0) 1 1 Try.underlying178 hi hz0 hz1 hz2 rfl (by decide) _ _ _ rfl (ho3.alloc _) ⟨w3.heap.size, 0, none⟩ 1 1 [.int .u8 1] rfl rfl (cell_one_new _ _ _) (by simp [Value.oneCell']) (by unfold maxLen; omega) (by omega) (by simp; omega) ?_; intro v4 w4 ho4 hg4 _)
    go_ret
    refine ⟨v4, rfl, ?_, (HB0.out.alloc (by omega) _).grown hg4 (by simp; omega) (fun k hk => by have := own_base ho3 k hk; omega)⟩
    rw [HE.out 1 rfl]
    exact own_weaken (by simpa [nums] using ho4) (by omega)
set_option maxHeartbeats 8000000 in
set_option maxRecDepth 100000 in
theorem encodeRec_any (rep : ByteArray) (hs : rep.size ≤ 140737488351232) (ep tm : Int) (gone : Bool) (w : World) :
    Calls Try.prog 155 #[.agg #[.string rep, .int .i64 ep, .int .i64 tm, .bool gone], .func (.func 85) #[] #[], .func (.func 156) #[] #[]] w fun e w' => e = .returned (encRes rep ep tm gone) ∧ Below w.heap.size w w' := by
  unfold encRes
  cases hm : mayRec rep ep tm
  · have hc := recMay_any rep hs ep tm gone
    rw [hm] at hc
    have HC := Lib.hid hc
    clear hc hm
    simp only [Bool.false_eq_true, if_false]
    go_enter Try.func155, Try.ntmps155
    go_wp2_with fail
    refine (HC.out _).mono ?_
    rintro e w1 ⟨rfl, hb1⟩
    go_wp2
    go_ret2
    exact ⟨rfl, below_next0 ((Below.refl _ _).alloc (Nat.le_refl _) _) hb1⟩
  · have hbd := mayRec_bd hm
    have hc := recMay_any rep hs ep tm gone
    rw [hm] at hc
    have HC := Lib.hid hc
    clear hc hm
    obtain ⟨b1, b2, b3, b4, b5, b6⟩ := hbd
    obtain ⟨n, rfl⟩ := Int.eq_ofNat_of_zero_le (show 0 ≤ ep by omega)
    obtain ⟨m, rfl⟩ := Int.eq_ofNat_of_zero_le b3
    have hp := fun W => encPut_any rep n m gone b5 (by omega) (by omega) (by omega) (by omega) W
    have HP := Lib.hid hp
    clear hp
    simp only [if_true]
    go_enter Try.func155, Try.ntmps155
    go_wp2_with fail
    refine (HC.out _).mono ?_
    rintro e w1 ⟨rfl, hb1⟩
    have c0 : w1.cell? ⟨w.heap.size, 0, none⟩ = some (.string rep) := keep_cell hb1 (by simp)
    have c1 : w1.cell? ⟨w.heap.size, 1, none⟩ = some (.int .i64 n) := keep_cell hb1 (by simp)
    have c2 : w1.cell? ⟨w.heap.size, 2, none⟩ = some (.int .i64 m) := keep_cell hb1 (by simp)
    have c3 : w1.cell? ⟨w.heap.size, 3, none⟩ = some (.bool gone) := keep_cell hb1 (by simp)
    go_wp2_with fail
    refine (HP.out _).mono ?_
    rintro e w2 ⟨v2, rfl, ho2, hb2⟩
    have hstr := own_string (P := Try.prog) (src := 178) (dst := 9) (e := 5) Try.underlying178 Try.underlying5 Try.underlying9 ho2
    clear c0 c1 c2 c3
    go_wp2
    go_ret2
    exact ⟨rfl, below_next0 (below_next0 ((Below.refl _ _).alloc (Nat.le_refl _) _) hb1) hb2⟩
set_option maxHeartbeats 8000000 in
set_option maxRecDepth 100000 in
theorem encode_any (rep : ByteArray) (hs : rep.size ≤ 140737488351232) (ep tm : Int) (gone : Bool) (w : World) :
    Calls Try.prog 81 #[.agg #[.string rep, .int .i64 ep, .int .i64 tm, .bool gone]] w fun e w' => e = .returned (encRes rep ep tm gone) ∧ Below w.heap.size w w' := by
  have hc := fun W => encodeRec_any rep hs ep tm gone W
  have HC := Lib.hid hc
  clear hc
  have hf : ∃ s : ByteArray, ∃ c : Int, encRes rep ep tm gone = .tuple #[.string s, .int .i64 c] := by
    unfold encRes
    split
    · exact ⟨_, _, rfl⟩
    · exact ⟨_, _, rfl⟩
  obtain ⟨s, c, hsc⟩ := hf
  rw [hsc] at HC ⊢
  clear hsc
  go_enter Try.func81, Try.ntmps81
  go_wp2_with fail
  refine (HC.out _).mono ?_
  rintro e w1 ⟨rfl, hb1⟩
  go_wp2
  go_ret2
  exact ⟨rfl, below_next0 ((Below.refl _ _).alloc (Nat.le_refl _) _) hb1⟩
set_option maxHeartbeats 8000000 in
set_option maxRecDepth 100000 in
theorem encPutTen_any (n m : Nat) (hn : n < 18446744073709551616) (hm : m < 18446744073709551616) (hn0 : n ≤ 1125899906842624) (hm0 : m ≤ 1125899906842624) (w : World) :
    Calls Try.prog 162 #[.slice none 0 0, .agg #[.int .i64 n, .int .i64 m]] w fun e w' => ∃ v', e = .returned v' ∧ w'.ownsRow w.heap.size 5 1 v' (tenBytes n m).length (nums .u8 (tenBytes n m)) ∧ Below w.heap.size w w' := by
  have hl1 := vint_len10 hn
  have hl2 := vint_len10 hm
  have HE : Hid (tenBytes n m = vint n ++ vint m) := Lib.hid rfl
  have hw1 : IntKind.u64.wrap (n : Int) = n := by rw [IntKind.wrap_u64]; omega
  have hw2 : IntKind.u64.wrap (m : Int) = m := by rw [IntKind.wrap_u64]; omega
  go_enter Try.func162, Try.ntmps162
  go_wp2_with fail
  have c0 : (w.alloc (.cells #[.int .i64 n, .int .i64 m] 25)).cell? ⟨w.heap.size, 0, none⟩ = some (.int .i64 n) := by simp
  have c1 : (w.alloc (.cells #[.int .i64 n, .int .i64 m] 25)).cell? ⟨w.heap.size, 1, none⟩ = some (.int .i64 m) := by simp
  go_region_held3 (fun W => W.cell? ⟨w.heap.size, 0, none⟩ = some (.int .i64 n) ∧ W.cell? ⟨w.heap.size, 1, none⟩ = some (.int .i64 m)) (go_keep) (first | (go_at_call 158; (with_reducible refine (putUvarint_any (w.heap.size + 1) (.slice none 0 0) [] n _ (World.ownsRow_nil _ _ _ _) (by simp) (by simp) hn).mono ?_); rintro e w1 ⟨v1, rfl, ho1, hb1⟩; have d0 : w1.cell? ⟨w.heap.size, 0, none⟩ = some (.int .i64 n) := (hb1.cell (p := ⟨w.heap.size, 0, none⟩) (by simp)).trans (by simp); have d1 : w1.cell? ⟨w.heap.size, 1, none⟩ = some (.int .i64 m) := (hb1.cell (p := ⟨w.heap.size, 1, none⟩) (by simp)).trans (by simp); have z1 := hb1.size) | (go_at_call 158; (with_reducible refine (putUvarint_any (w.heap.size + 1) v1 _ m _ (by exact ho1) (by simp at z1 ⊢; omega) (by simp; omega) hm).mono ?_); rintro e w2 ⟨v2, rfl, ho2, hb2⟩; have d0' : w2.cell? ⟨w.heap.size, 0, none⟩ = some (.int .i64 n) := (hb2.cell (p := ⟨w.heap.size, 0, none⟩) (by simp)).trans (by simp [*]); have d1' : w2.cell? ⟨w.heap.size, 1, none⟩ = some (.int .i64 m) := (hb2.cell (p := ⟨w.heap.size, 1, none⟩) (by simp)).trans (by simp [*])))
  go_wp2
  go_ret
  refine ⟨_, rfl, ?_, ?_⟩
  · rw [HE.out]
    exact own_weaken (by simpa using ho2) (by omega)
  · have h1 : Below (w.heap.size + 1) _ w2 := (pw_below_drewN (Below.refl _ (w.alloc (.cells #[.int .i64 n, .int .i64 m] 25))) _).trans (hb1.trans hb2)
    exact ((Below.refl _ _).alloc (Nat.le_refl _) _).trans (h1.mono (by omega))
set_option maxHeartbeats 8000000 in
set_option maxRecDepth 100000 in
theorem encodeTenG_any (live ep : Int) (w : World) :
    Calls Try.prog 161 #[.agg #[.int .i64 live, .int .i64 ep], .func (.func 87) #[] #[], .func (.func 162) #[] #[]] w fun e w' => e = .returned (encTenRes live ep) ∧ Below w.heap.size w w' := by
  unfold encTenRes
  cases hm : mayTen live ep
  · have hc := tenMay_any live ep
    rw [hm] at hc
    have HC := Lib.hid hc
    clear hc hm
    simp only [Bool.false_eq_true, if_false]
    go_enter Try.func161, Try.ntmps161
    go_wp2_with fail
    refine (HC.out _).mono ?_
    rintro e w1 ⟨rfl, hb1⟩
    go_wp2
    go_ret2
    exact ⟨rfl, below_next0 ((Below.refl _ _).alloc (Nat.le_refl _) _) hb1⟩
  · have hbd := mayTen_bd hm
    have hc := tenMay_any live ep
    rw [hm] at hc
    have HC := Lib.hid hc
    clear hc hm
    obtain ⟨b1, b2, b3, b4, b5⟩ := hbd
    obtain ⟨n, rfl⟩ := Int.eq_ofNat_of_zero_le b3
    obtain ⟨m, rfl⟩ := Int.eq_ofNat_of_zero_le b1
    have hp := fun W => encPutTen_any n m (by omega) (by omega) (by omega) (by omega) W
    have HP := Lib.hid hp
    clear hp
    simp only [if_true]
    go_enter Try.func161, Try.ntmps161
    go_wp2_with fail
    refine (HC.out _).mono ?_
    rintro e w1 ⟨rfl, hb1⟩
    have c0 : w1.cell? ⟨w.heap.size, 0, none⟩ = some (.int .i64 n) := keep_cell hb1 (by simp)
    have c1 : w1.cell? ⟨w.heap.size, 1, none⟩ = some (.int .i64 m) := keep_cell hb1 (by simp)
    go_wp2_with fail
    refine (HP.out _).mono ?_
    rintro e w2 ⟨v2, rfl, ho2, hb2⟩
    have hstr := own_string (P := Try.prog) (src := 178) (dst := 9) (e := 5) Try.underlying178 Try.underlying5 Try.underlying9 ho2
    clear c0 c1
    go_wp2
    go_ret2
    exact ⟨rfl, below_next0 (below_next0 ((Below.refl _ _).alloc (Nat.le_refl _) _) hb1) hb2⟩
set_option maxHeartbeats 8000000 in
set_option maxRecDepth 100000 in
theorem encodeTen_any (live ep : Int) (w : World) :
    Calls Try.prog 83 #[.agg #[.int .i64 live, .int .i64 ep]] w fun e w' => e = .returned (encTenRes live ep) ∧ Below w.heap.size w w' := by
  have hc := fun W => encodeTenG_any live ep W
  have HC := Lib.hid hc
  clear hc
  have hf : ∃ s : ByteArray, ∃ c : Int, encTenRes live ep = .tuple #[.string s, .int .i64 c] := by
    unfold encTenRes
    split
    · exact ⟨_, _, rfl⟩
    · exact ⟨_, _, rfl⟩
  obtain ⟨s, c, hsc⟩ := hf
  rw [hsc] at HC ⊢
  clear hsc
  go_enter Try.func83, Try.ntmps83
  go_wp2_with fail
  refine (HC.out _).mono ?_
  rintro e w1 ⟨rfl, hb1⟩
  go_wp2
  go_ret2
  exact ⟨rfl, below_next0 ((Below.refl _ _).alloc (Nat.le_refl _) _) hb1⟩
end Go.Proofs.Ytobanhbjkomieaa.RP
namespace Go.Proofs.Ytobanhbjkomieaa.RP
open Go.RowKit Go.Proofs.Ytobanhbjkomieaa.PAll Go.Proofs.Ytobanhbjkomieaa.KP Go.Proofs.Ytobanhbjkomieaa.BP Go.Proofs.YtobanhbjkomieaaW.PrintWords Go.Proofs.YtobanhbjkomieaaW.PrintLast Go.Proofs.YtobanhbjkomieaaW.PrintMore
open Go.Proofs.Ytobanhbjkomieaa.PRd (rv uv uv_bad uv_ok next_lt pow_le8 next_lt9)
/-! ### varints, read: what the readers compute -/
def c3 (r : Nat × Nat × Int) : Int × Int × Int := (r.1, r.2.1, r.2.2)
theorem wrap_nat {n : Nat} (h : n < 18446744073709551616) : IntKind.u64.wrap (n : Int) = n := by rw [IntKind.wrap_u64]; omega
theorem step_val {i acc b : Nat} (hb : acc + 128 ^ i * (b % 128) < 18446744073709551616) (h256 : b < 256) :
    IntKind.u64.wrap ((acc : Int) + IntKind.u64.wrap (((128 ^ i : Nat) : Int) * IntKind.u64.wrap (Int.tmod (b : Int) 128))) = ((acc + 128 ^ i * (b % 128) : Nat) : Int) := by
  have e1 : Int.tmod (b : Int) 128 = ((b % 128 : Nat) : Int) := by rw [Int.tmod_eq_emod_of_nonneg (by omega)]; omega
  rw [e1, wrap_nat (by omega), ← Int.natCast_mul, wrap_nat (by omega), ← Int.natCast_add, wrap_nat hb]
theorem pow_wrap {i : Nat} (h : i < 9) : IntKind.u64.wrap (((128 ^ i : Nat) : Int) * 128) = ((128 ^ (i + 1) : Nat) : Int) := by
  have := pow_le8 h
  rw [show (((128 ^ i : Nat) : Int) * 128) = ((128 ^ i * 128 : Nat) : Int) by simp, wrap_nat (by omega), Nat.pow_succ]
theorem read_l0 (l : List UInt8) (hl : l.length ≤ 140737488351232) : ∀ (d i acc : Nat), i + d = l.length → i ≤ 9 → acc < 128 ^ i →
    Ev (fun k => batonref01_Read.l0 k ⟨l.toArray⟩ (acc : Int) ((128 ^ i : Nat) : Int) (i : Int)) (c3 (rv i acc (l.drop i)))
  | 0, i, acc, h, hi, ha => by
    refine Ev.step (f := fun _ => some (c3 (0, 0, 8))) (fun k => ?_) ?_
    · simp only [batonref01_Read.l0]
      rw [if_pos (by rw [size_mk]; omega)]
      rfl
    · rw [List.drop_eq_nil_of_le (by omega)]
      exact Ev.now _
  | d + 1, i, acc, h, hi, ha => by
    have hlt : i < l.length := by omega
    have hd : l.drop i = l[i] :: l.drop (i + 1) := List.drop_eq_getElem_cons hlt
    have h256 : l[i].toNat < 256 := l[i].toNat_lt
    have hbt : bt ⟨l.toArray⟩ (i : Int) = (l[i].toNat : Int) := bt_mk l i hlt
    rw [hd, rv]
    generalize l[i].toNat = b at *
    have j1ev : (i = 9 → b ≤ 1) → Ev (fun k => batonref01_Read.j1 k ⟨l.toArray⟩ (acc : Int) ((128 ^ i : Nat) : Int) (i : Int) false) (c3 (if b < 128 then (acc + 128 ^ i * b, i + 1, 0) else rv (i + 1) (acc + 128 ^ i * (b % 128)) (l.drop (i + 1)))) := by
      intro h9
      by_cases hb : b < 128
      · have hv : acc + 128 ^ i * (b % 128) < 18446744073709551616 := by
          by_cases c : i = 9
          · subst c
            have := h9 rfl
            rw [Nat.mod_eq_of_lt hb]
            omega
          · exact next_lt9 (by omega) ha (by omega)
        refine Ev.step (f := fun _ => some (c3 (acc + 128 ^ i * b, i + 1, 0))) (fun k => ?_) ?_
        · simp only [batonref01_Read.j1]
          rw [if_neg (by decide), if_pos (by omega), if_pos (by rw [size_mk]; omega), hbt, if_pos (by omega), step_val hv h256, wrap_succ (by omega) (by omega), Nat.mod_eq_of_lt hb]
          rfl
        · rw [if_pos hb]
          exact Ev.now _
      · have hi9 : i < 9 := by
          by_cases c : i = 9
          · have := h9 c; omega
          · omega
        refine Ev.step (f := fun k => batonref01_Read.l0 k ⟨l.toArray⟩ ((acc + 128 ^ i * (b % 128) : Nat) : Int) ((128 ^ (i + 1) : Nat) : Int) ((i + 1 : Nat) : Int)) (fun k => ?_) ?_
        · simp only [batonref01_Read.j1]
          rw [if_neg (by decide), if_pos (by omega), if_pos (by rw [size_mk]; omega), hbt, if_neg (by omega), step_val (next_lt9 hi9 ha (by omega)) h256, wrap_succ (by omega) (by omega), pow_wrap hi9]
          rfl
        · rw [if_neg hb]
          exact read_l0 l hl d (i + 1) _ (by omega) (by omega) (next_lt ha (by omega))
    by_cases c9 : i = 9
    · by_cases c1 : 1 < b
      · rw [if_pos ⟨c9, c1⟩]
        refine Ev.step (f := fun k => batonref01_Read.j1 k ⟨l.toArray⟩ (acc : Int) ((128 ^ i : Nat) : Int) (i : Int) true) (fun k => ?_) ?_
        · simp only [batonref01_Read.l0]
          rw [if_neg (by rw [size_mk]; omega), if_pos (by omega), if_pos (by omega), if_pos (by rw [size_mk]; omega), hbt, decide_eq_true (by omega)]
        · refine Ev.step (f := fun _ => some (c3 (0, 0, 4))) (fun k => ?_) (Ev.now _)
          simp only [batonref01_Read.j1]
          rfl
      · rw [if_neg (by omega)]
        refine Ev.step (f := fun k => batonref01_Read.j1 k ⟨l.toArray⟩ (acc : Int) ((128 ^ i : Nat) : Int) (i : Int) false) (fun k => ?_) (j1ev (by omega))
        simp only [batonref01_Read.l0]
        rw [if_neg (by rw [size_mk]; omega), if_pos (by omega), if_pos (by omega), if_pos (by rw [size_mk]; omega), hbt, decide_eq_false (by omega)]
    · rw [if_neg (by omega)]
      refine Ev.step (f := fun k => batonref01_Read.j1 k ⟨l.toArray⟩ (acc : Int) ((128 ^ i : Nat) : Int) (i : Int) false) (fun k => ?_) (j1ev (by omega))
      simp only [batonref01_Read.l0]
      rw [if_neg (by rw [size_mk]; omega), if_neg (by omega)]
/-- How far a varint goes. -/
theorem rv_bd : ∀ (l : List UInt8) (i acc : Nat), (rv i acc l).2.1 ≤ i + l.length
  | [], i, acc => by simp [rv]
  | b :: l, i, acc => by
    have ih := rv_bd l (i + 1) (acc + 128 ^ i * (b.toNat % 128))
    rw [rv]
    split
    · simp
    · split
      · simp
      · simp only [List.length_cons]; omega
theorem uv_bd {s : List UInt8} {p : Nat} (hp : p ≤ s.length) : (uv s p).2.1 ≤ s.length := by
  have := rv_bd (s.drop p) 0 0
  rw [List.length_drop] at this
  simp only [uv]
  split
  · simp only; omega
  · simp
theorem refUvarint_ev (l : List UInt8) (hl : l.length ≤ 140737488351232) (p : Nat) (hp : p ≤ l.length) : Ev (fun k => batonref01_Uvarint.f k ⟨l.toArray⟩ (p : Int)) (c3 (uv l p)) := by
  refine Ev.congr (f := fun k => batonref01_Uvarint.j0 k ⟨l.toArray⟩ (p : Int) false) (fun k => ?_) ?_
  · simp only [batonref01_Uvarint.f]
    rw [if_neg (by omega), decide_eq_false (by rw [size_mk]; omega)]
  · refine Ev.step (f := fun k => (batonref01_Read.f k ⟨(l.drop p).toArray⟩).bind fun t => if t.2.2 = 0 then some (t.1, wrap64 ((p : Int) + t.2.1), 0) else some (0, 0, t.2.2)) (fun k => ?_) ?_
    · have e : (⟨l.toArray⟩ : ByteArray).extract (p : Int).toNat (⟨l.toArray⟩ : ByteArray).size = ⟨(l.drop p).toArray⟩ := by
        apply WideShapes.bytes_inj
        simp [size_mk]
        exact List.take_of_length_le (by simp)
      simp only [batonref01_Uvarint.j0]
      rw [if_neg (by decide), if_pos (by omega), if_pos (by rw [size_mk]; omega), e]
    · have h := read_l0 (l.drop p) (by simp; omega) (l.drop p).length 0 0 (by omega) (by omega) (by simp)
      have hb := rv_bd (l.drop p) 0 0
      rw [List.length_drop] at hb
      refine Ev.bind (a := c3 (rv 0 0 (l.drop p))) h ?_
      simp only [uv]
      generalize rv 0 0 (l.drop p) = r at *
      obtain ⟨x, y, e⟩ := r
      by_cases c : e = 0
      · subst c
        have : wrap64 ((p : Int) + (y : Int)) = ((p + y : Nat) : Int) := by simp only at hb; unfold wrap64; omega
        simp only [c3, if_true, this]
        exact Ev.now _
      · simp only [c3, if_neg c]
        exact Ev.congr (f := fun _ => some ((0 : Int), (0 : Int), e)) (fun k => if_neg c) (Ev.now _)
/-! ### the readers: number, place, error -/
def vAt (s : List UInt8) (p most : Nat) : Nat × Nat × Int := if (uv s p).2.2 = 0 then (if most < (uv s p).1 then (0, p, 40) else ((uv s p).1, (uv s p).2.1, 0)) else (0, p, (uv s p).2.2)
def rdV (s : List UInt8) (p : Nat) (e : Int) (most : Nat) : Nat × Nat × Int := if e = 0 then vAt s p most else (0, p, e)
def rawAt (s : List UInt8) (p : Nat) (e : Int) (n : Nat) : List UInt8 × Nat × Int := if e = 0 then (if s.length < p + n then ([], p, 8) else ((s.drop p).take n, p + n, 0)) else ([], p, e)
def rdT (s : List UInt8) (p : Nat) (e : Int) (most : Nat) : List UInt8 × Nat × Int :=
  let v := rdV s p e most
  if v.2.2 = 0 then (if s.length < v.2.1 + v.1 then ([], p, 8) else ((s.drop v.2.1).take v.1, v.2.1 + v.1, 0)) else ([], v.2.1, v.2.2)
def rdB (s : List UInt8) (p : Nat) (e : Int) : Nat × Nat × Int := if e = 0 then (match s.drop p with | [] => (0, p, 8) | b :: _ => (b.toNat, p + 1, 0)) else (0, p, e)
theorem rdV_bd {s : List UInt8} {p : Nat} (hp : p ≤ s.length) (e : Int) (most : Nat) : (rdV s p e most).2.1 ≤ s.length ∧ (rdV s p e most).1 ≤ most := by
  have := uv_bd hp
  simp only [rdV, vAt]
  repeat' split
  all_goals simp
  all_goals omega
/-- A reader's answer, as its contract has it. -/
def cV (s : ByteArray) (r : Nat × Nat × Int) : Int × ByteArray × Int × Int := (r.1, s, r.2.1, r.2.2)
def cT (s : ByteArray) (r : List UInt8 × Nat × Int) : ByteArray × ByteArray × Int × Int := (⟨r.1.toArray⟩, s, r.2.1, r.2.2)
theorem refV_ev (l : List UInt8) (hl : l.length ≤ 140737488351232) (p : Nat) (hp : p ≤ l.length) (e : Int) (most : Nat) :
    Ev (fun k => batonref01_Reader_Varint.f k ⟨l.toArray⟩ (p : Int) e (most : Int)) (cV ⟨l.toArray⟩ (rdV l p e most)) := by
  unfold batonref01_Reader_Varint.f rdV
  by_cases he : e = 0
  · subst he
    simp only [if_true]
    refine Ev.bind (refUvarint_ev l hl p hp) ?_
    unfold vAt c3
    by_cases h0 : (uv l p).2.2 = 0
    · simp only [if_pos h0]
      by_cases h1 : most < (uv l p).1
      · rw [if_pos h1, if_pos (by omega)]
        exact Ev.now _
      · rw [if_neg h1, if_neg (by omega)]
        exact Ev.now _
    · simp only [if_neg h0]
      exact Ev.now _
  · simp only [if_neg he]
    exact Ev.now _
theorem v_ev (l : List UInt8) (hl : l.length ≤ 140737488351232) (p : Nat) (hp : p ≤ l.length) (e : Int) (most : Nat) :
    Ev (fun k => PRd.bits_Reader_Varint.f k ⟨l.toArray⟩ (p : Int) e (most : Int)) (cV ⟨l.toArray⟩ (rdV l p e most)) := by
  unfold PRd.bits_Reader_Varint.f rdV
  simp only [PRd.bits_Reader_good.f, Option.bind_some]
  by_cases he : e = 0
  · subst he
    simp only [decide_true, if_true]
    have hu : PRd.bits_Uvarint.f ⟨l.toArray⟩ (p : Int) = some (c3 (uv l p)) := by
      unfold PRd.bits_Uvarint.f
      rw [if_pos (by omega), if_pos (by rw [size_mk]; omega), if_pos (by rw [size_mk]; omega)]
      simp [c3]
    simp only [hu, Option.bind_some]
    unfold vAt c3
    by_cases h0 : (uv l p).2.2 = 0
    · simp only [if_pos h0]
      by_cases h1 : most < (uv l p).1
      · rw [if_pos h1]
        refine Ev.step (f := fun _ => some (cV ⟨l.toArray⟩ (0, p, 40))) (fun k => ?_) (Ev.now _)
        simp only [PRd.bits_Reader_Varint.j0]
        rw [if_pos (by simp; omega)]
        rfl
      · rw [if_neg h1]
        refine Ev.step (f := fun _ => some (cV ⟨l.toArray⟩ ((uv l p).1, (uv l p).2.1, 0))) (fun k => ?_) (Ev.now _)
        simp only [PRd.bits_Reader_Varint.j0]
        rw [if_neg (by simp; omega), h0]
        rfl
    · simp only [if_neg h0]
      refine Ev.step (f := fun _ => some (cV ⟨l.toArray⟩ (0, p, (uv l p).2.2))) (fun k => ?_) (Ev.now _)
      simp only [PRd.bits_Reader_Varint.j0, PRd.bits_Reader_take.f]
      rw [if_neg (by simp), if_neg h0]
      rfl
  · simp only [decide_eq_false he, if_neg he]
    exact Ev.now _
theorem refRaw_eq (l : List UInt8) (hl : l.length ≤ 140737488351232) (p : Nat) (hp : p ≤ l.length) (e : Int) (n : Nat) (hn : n ≤ 140737488351232) :
    batonref01_Reader_Raw.f ⟨l.toArray⟩ (p : Int) e (n : Int) = some (cT ⟨l.toArray⟩ (rawAt l p e n)) := by
  have e2 : (⟨l.toArray⟩ : ByteArray).extract (p : Int).toNat (p + n) = ⟨((l.drop p).take n).toArray⟩ := by
    apply WideShapes.bytes_inj
    simp
  unfold batonref01_Reader_Raw.f rawAt
  by_cases he : e = 0
  · subst he
    simp only [if_true]
    rw [if_neg (by omega), size_mk]
    have h1 : wrap64 ((l.length : Int) - p) = (l.length : Int) - p := by unfold wrap64; omega
    have h2 : wrap64 ((p : Int) + n) = ((p + n : Nat) : Int) := by unfold wrap64; omega
    rw [h1, h2]
    by_cases c : l.length < p + n
    · rw [if_pos (by omega), if_pos c]
      rfl
    · rw [if_neg (by omega), if_neg c, if_pos (by omega), if_pos (by omega), if_pos (by omega)]
      rw [show (((p + n : Nat) : Int)).toNat = p + n from rfl, e2]
      rfl
  · simp only [if_neg he]
    rfl
theorem raw_eq (l : List UInt8) (hl : l.length ≤ 140737488351232) (p : Nat) (hp : p ≤ l.length) (e : Int) (n : Nat) (hn : n ≤ 140737488351232) :
    PRd.bits_Reader_Raw.f ⟨l.toArray⟩ (p : Int) e (n : Int) = some (cT ⟨l.toArray⟩ (rawAt l p e n)) := by
  have e2 : (⟨l.toArray⟩ : ByteArray).extract (p : Int).toNat (p + n) = ⟨((l.drop p).take n).toArray⟩ := by
    apply WideShapes.bytes_inj
    simp
  unfold PRd.bits_Reader_Raw.f rawAt
  simp only [PRd.bits_Reader_good.f, PRd.bits_Reader_Left.f, Option.bind_some]
  by_cases he : e = 0
  · subst he
    simp only [decide_true, if_true]
    rw [if_neg (by omega), size_mk]
    have h1 : wrap64 ((l.length : Int) - p) = (l.length : Int) - p := by unfold wrap64; omega
    have h2 : wrap64 ((p : Int) + n) = ((p + n : Nat) : Int) := by unfold wrap64; omega
    have h3 : wrap64 (((p + n : Nat) : Int) - n) = (p : Int) := by unfold wrap64; omega
    rw [h1, h2, h3]
    by_cases c : l.length < p + n
    · rw [if_pos (by omega), if_pos c]
      rfl
    · rw [if_neg (by omega), if_neg c, if_pos (by omega), if_pos (by omega), if_pos (by omega)]
      rw [show (((p + n : Nat) : Int)).toNat = p + n from rfl, e2]
      rfl
  · simp only [decide_eq_false he, if_neg he]
    rfl
theorem wrap_mx {m : Nat} (h : m < 9223372036854775808) : IntKind.u64.wrap (mx (m : Int) 0) = (m : Int) := by
  have : mx (m : Int) 0 = (m : Int) := by unfold mx; first | omega | (split <;> omega)
  rw [this, wrap_nat (by omega)]
theorem raw_rdT {l : List UInt8} {p : Nat} {e : Int} {most : Nat} (h0 : (rdV l p e most).2.2 = 0) (h : ¬ l.length < (rdV l p e most).2.1 + (rdV l p e most).1) :
    rawAt l (rdV l p e most).2.1 (rdV l p e most).2.2 (rdV l p e most).1 = rdT l p e most := by
  simp only [rdT, rawAt, if_pos h0, if_neg h]
theorem refT_ev (l : List UInt8) (hl : l.length ≤ 140737488351232) (p : Nat) (hp : p ≤ l.length) (e : Int) (most : Nat) (hm : most ≤ 140737488351232) :
    Ev (fun k => batonref01_Reader_Text.f k ⟨l.toArray⟩ (p : Int) e (most : Int)) (cT ⟨l.toArray⟩ (rdT l p e most)) := by
  obtain ⟨hb, hn⟩ := rdV_bd hp e most
  unfold batonref01_Reader_Text.f
  rw [wrap_mx (by omega)]
  refine Ev.bind (refV_ev l hl p hp e most) ?_
  unfold cV
  by_cases h0 : (rdV l p e most).2.2 = 0
  · simp only [if_pos h0]
    rw [size_mk]
    have h1 : IntKind.u64.wrap (wrap64 ((l.length : Int) - ((rdV l p e most).2.1 : Int))) = ((l.length - (rdV l p e most).2.1 : Nat) : Int) := by
      rw [show wrap64 ((l.length : Int) - ((rdV l p e most).2.1 : Int)) = ((l.length - (rdV l p e most).2.1 : Nat) : Int) by unfold wrap64; omega, wrap_nat (by omega)]
    rw [h1]
    by_cases c : l.length < (rdV l p e most).2.1 + (rdV l p e most).1
    · rw [if_pos (by omega)]
      simp only [rdT, if_pos h0, if_pos c]
      exact Ev.now _
    · rw [if_neg (by omega), show wrap64 ((rdV l p e most).1 : Int) = ((rdV l p e most).1 : Int) by unfold wrap64; omega, refRaw_eq l hl _ hb _ _ (by omega), raw_rdT h0 c]
      exact Ev.now _
  · simp only [rdT, if_neg h0]
    exact Ev.now _
theorem t_ev (l : List UInt8) (hl : l.length ≤ 140737488351232) (p : Nat) (hp : p ≤ l.length) (e : Int) (most : Nat) (hm : most ≤ 140737488351232) :
    Ev (fun k => PRd.bits_Reader_Text.f k ⟨l.toArray⟩ (p : Int) e (most : Int)) (cT ⟨l.toArray⟩ (rdT l p e most)) := by
  obtain ⟨hb, hn⟩ := rdV_bd hp e most
  unfold PRd.bits_Reader_Text.f
  simp only [PRd.bits_Reader_good.f, Option.bind_some]
  by_cases he : e = 0
  · subst he
    simp only [decide_true, if_true]
    rw [wrap_mx (by omega)]
    refine Ev.bind (v_ev l hl p hp 0 most) ?_
    unfold cV
    by_cases h0 : (rdV l p 0 most).2.2 = 0
    · simp only [if_pos h0]
      simp only [PRd.bits_Reader_Left.f, Option.bind_some]
      rw [size_mk]
      have h1 : IntKind.u64.wrap (wrap64 ((l.length : Int) - ((rdV l p 0 most).2.1 : Int))) = ((l.length - (rdV l p 0 most).2.1 : Nat) : Int) := by
        rw [show wrap64 ((l.length : Int) - ((rdV l p 0 most).2.1 : Int)) = ((l.length - (rdV l p 0 most).2.1 : Nat) : Int) by unfold wrap64; omega, wrap_nat (by omega)]
      rw [h1]
      by_cases c : l.length < (rdV l p 0 most).2.1 + (rdV l p 0 most).1
      · rw [decide_eq_true (by omega)]
        refine Ev.step (f := fun _ => some (cT ⟨l.toArray⟩ ([], p, 8))) (fun k => ?_) ?_
        · simp only [PRd.bits_Reader_Text.j0]
          rfl
        · simp only [rdT, if_pos h0, if_pos c]
          exact Ev.now _
      · rw [decide_eq_false (by omega)]
        refine Ev.step (f := fun _ => some (cT ⟨l.toArray⟩ (rdT l p 0 most))) (fun k => ?_) (Ev.now _)
        simp only [PRd.bits_Reader_Text.j0]
        rw [if_neg (by decide), if_pos h0, show wrap64 ((rdV l p 0 most).1 : Int) = ((rdV l p 0 most).1 : Int) by unfold wrap64; omega, raw_eq l hl _ hb _ _ (by omega), raw_rdT h0 c]
        rfl
    · simp only [if_neg h0]
      refine Ev.step (f := fun _ => some (cT ⟨l.toArray⟩ (rdT l p 0 most))) (fun k => ?_) (Ev.now _)
      simp only [PRd.bits_Reader_Text.j0, rdT]
      rw [if_neg (by decide), if_neg h0, if_neg h0]
      rfl
  · simp only [decide_eq_false he]
    have : rdT l p e most = ([], p, e) := by simp only [rdT, rdV, if_neg he]
    rw [this]
    exact Ev.now _
theorem raw_byte (l : List UInt8) (p : Nat) (e : Int) (s : ByteArray) : (if (cT s (rawAt l p e 1)).1.toList = ([] : List UInt8) then some (0, (cT s (rawAt l p e 1)).2.1, (cT s (rawAt l p e 1)).2.2.1, (cT s (rawAt l p e 1)).2.2.2) else (if 0 < ((cT s (rawAt l p e 1)).1.size : Int) then some (bt (cT s (rawAt l p e 1)).1 0, (cT s (rawAt l p e 1)).2.1, (cT s (rawAt l p e 1)).2.2.1, (cT s (rawAt l p e 1)).2.2.2) else none)) = some (cV s (rdB l p e)) := by
  unfold rdB rawAt cT cV
  by_cases he : e = 0
  · simp only [if_pos he]
    cases hd : l.drop p with
    | nil =>
      have : l.length < p + 1 := by have := congrArg List.length hd; simp at this; omega
      simp only [if_pos this]
      rw [toList_mk, if_pos rfl]
      rfl
    | cons b t =>
      have : ¬ l.length < p + 1 := by have := congrArg List.length hd; simp at this; omega
      simp only [if_neg this, List.take_succ_cons, List.take_zero]
      rw [toList_mk, if_neg (by simp), size_mk, if_pos (by simp), show (0 : Int) = ((0 : Nat) : Int) from rfl, bt_mk _ 0 (by simp)]
      rfl
  · simp only [if_neg he]
    rw [toList_mk, if_pos rfl]
    rfl
theorem refB_eq (l : List UInt8) (hl : l.length ≤ 140737488351232) (p : Nat) (hp : p ≤ l.length) (e : Int) : batonref01_Reader_Byte.f ⟨l.toArray⟩ (p : Int) e = some (cV ⟨l.toArray⟩ (rdB l p e)) := by
  unfold batonref01_Reader_Byte.f
  rw [show (1 : Int) = ((1 : Nat) : Int) from rfl, refRaw_eq l hl p hp e 1 (by omega)]
  exact raw_byte l p e _
theorem b_eq (l : List UInt8) (hl : l.length ≤ 140737488351232) (p : Nat) (hp : p ≤ l.length) (e : Int) : PRd.bits_Reader_Byte.f ⟨l.toArray⟩ (p : Int) e = some (cV ⟨l.toArray⟩ (rdB l p e)) := by
  unfold PRd.bits_Reader_Byte.f
  rw [show (1 : Int) = ((1 : Nat) : Int) from rfl, raw_eq l hl p hp e 1 (by omega)]
  exact raw_byte l p e _
theorem rdT_bd {s : List UInt8} {p : Nat} (hp : p ≤ s.length) (e : Int) (most : Nat) : (rdT s p e most).2.1 ≤ s.length ∧ (rdT s p e most).1.length ≤ most := by
  obtain ⟨hb, hn⟩ := rdV_bd hp e most
  simp only [rdT]
  repeat' split
  all_goals simp
  all_goals omega
theorem rdB_bd {s : List UInt8} {p : Nat} (hp : p ≤ s.length) (e : Int) : (rdB s p e).2.1 ≤ s.length ∧ (rdB s p e).1 < 256 := by
  unfold rdB
  split
  · cases hd : s.drop p with
    | nil => simp; omega
    | cons b t =>
      have := congrArg List.length hd
      have h2 := b.toNat_lt
      simp at this ⊢
      omega
  · simp; omega
end Go.Proofs.Ytobanhbjkomieaa.RP
namespace Go.Proofs.Ytobanhbjkomieaa.RP
open Go.RowKit Go.Proofs.Ytobanhbjkomieaa.PAll Go.Proofs.Ytobanhbjkomieaa.KP Go.Proofs.Ytobanhbjkomieaa.BP Go.Proofs.YtobanhbjkomieaaW.PrintWords Go.Proofs.YtobanhbjkomieaaW.PrintLast Go.Proofs.YtobanhbjkomieaaW.PrintMore
open Go.Proofs.Ytobanhbjkomieaa.PRd (rv uv uv_bad uv_ok next_lt pow_le8 next_lt9)
set_option linter.unusedSimpArgs false
set_option linter.unusedVariables false
/-! ### plain law: what was written is read -/
/-- Numbers as bytes. -/
def nb (l : List Int) : List UInt8 := l.map fun n => UInt8.ofNat n.toNat
theorem nb_append (a b : List Int) : nb (a ++ b) = nb a ++ nb b := List.map_append
theorem nb_length (a : List Int) : (nb a).length = a.length := List.length_map _
theorem nb_strOf (l : List Int) : (strOfNums l).data.toList = nb l := by simp [strOfNums, nb]
theorem nb_bytesOf (s : ByteArray) : nb (bytesOf s) = s.data.toList := by
  have := congrArg (fun x : ByteArray => x.data.toList) (strOfNums_bytes s)
  rw [nb_strOf] at this
  exact this
/-- A varint's bytes. -/
def vb (n : Nat) : List UInt8 := nb (vint n)
theorem vb_small {n : Nat} (h : n < 128) : vb n = [UInt8.ofNat n] := by unfold vb; rw [vint_small h]; simp [nb]
theorem vb_big {n : Nat} (h : ¬ n < 128) : vb n = UInt8.ofNat (n % 128 + 128) :: vb (n / 128) := by
  unfold vb; rw [vint_big h]
  simp only [nb, List.map_cons]
  congr 2
theorem ofNat_toNat {n : Nat} (h : n < 256) : (UInt8.ofNat n).toNat = n := by
  simp [UInt8.toNat_ofNat']; omega
theorem rv_vb : ∀ (n i acc : Nat) (rest : List UInt8), 128 ^ i * n < 18446744073709551616 → rv i acc (vb n ++ rest) = (acc + 128 ^ i * n, i + (vb n).length, 0) := by
  intro n
  induction n using Nat.strongRecOn with
  | _ n ih =>
    intro i acc rest h
    by_cases hn : n < 128
    · rw [vb_small hn]
      simp only [List.cons_append, List.nil_append, rv, ofNat_toNat (show n < 256 by omega), List.length_singleton]
      rw [if_neg, if_pos hn]
      rintro ⟨rfl, h1⟩
      omega
    · rw [vb_big hn]
      have hm : (n % 128 + 128) % 128 = n % 128 := by omega
      simp only [List.cons_append, rv, ofNat_toNat (show n % 128 + 128 < 256 by omega), List.length_cons, hm]
      have h9 : i ≠ 9 := by rintro rfl; omega
      have hp : 128 ^ (i + 1) * (n / 128) ≤ 128 ^ i * n := by
        rw [Nat.pow_succ, Nat.mul_assoc]
        exact Nat.mul_le_mul_left _ (Nat.mul_div_le n 128)
      rw [if_neg (fun c => h9 c.1), if_neg (by omega), ih (n / 128) (by omega) (i + 1) _ rest (by omega)]
      refine Prod.ext ?_ (Prod.ext ?_ rfl)
      · simp only
        have e : n = n % 128 + 128 * (n / 128) := by omega
        conv => rhs; rw [e, Nat.mul_add, ← Nat.mul_assoc]
        rw [Nat.pow_succ, Nat.add_assoc]
      · simp only; omega
theorem rv_cut : ∀ (n i acc j : Nat), 128 ^ i * n < 18446744073709551616 → j < (vb n).length → rv i acc ((vb n).take j) = (0, 0, 8) := by
  intro n
  induction n using Nat.strongRecOn with
  | _ n ih =>
    intro i acc j h hj
    by_cases hn : n < 128
    · rw [vb_small hn] at hj ⊢
      obtain rfl : j = 0 := by simpa using hj
      rfl
    · rw [vb_big hn] at hj ⊢
      cases j with
      | zero => rfl
      | succ j =>
        simp only [List.take_succ_cons, rv, ofNat_toNat (show n % 128 + 128 < 256 by omega)]
        have h9 : i ≠ 9 := by rintro rfl; omega
        have hp : 128 ^ (i + 1) * (n / 128) ≤ 128 ^ i * n := by
          rw [Nat.pow_succ, Nat.mul_assoc]
          exact Nat.mul_le_mul_left _ (Nat.mul_div_le n 128)
        rw [if_neg (fun c => h9 c.1), if_neg (by omega)]
        exact ih (n / 128) (by omega) (i + 1) _ j (by omega) (by simpa using hj)
/-- A varint that is read has at least as many bytes as its number wants. -/
theorem rv_short : ∀ (l : List UInt8) (i acc n k : Nat), acc < 128 ^ i → rv i acc l = (n, k, 0) → n < 128 ^ k ∧ i < k
  | [], i, acc, n, k, _, h => by simp [rv] at h
  | b :: l, i, acc, n, k, ha, h => by
    rw [rv] at h
    split at h
    · simp at h
    · split at h
      · simp only [Prod.mk.injEq, and_true] at h
        obtain ⟨rfl, rfl⟩ := h
        exact ⟨next_lt ha (by assumption), by omega⟩
      · have := rv_short l (i + 1) _ n k (next_lt ha (by omega)) h
        exact ⟨this.1, by omega⟩
theorem vb_len (n : Nat) : (vb n).length = (vint n).length := nb_length _
theorem vb_pos (n : Nat) : 0 < (vb n).length := by rw [vb_len]; exact vint_pos n
theorem vb_le {n k : Nat} (h : n < 128 ^ k) (hk : 0 < k) : (vb n).length ≤ k := by
  obtain ⟨m, rfl⟩ : ∃ m, k = m + 1 := ⟨k - 1, by omega⟩
  rw [vb_len]
  exact vint_len m n h
theorem uv_vb (pre rest : List UInt8) (n : Nat) (h : n < 18446744073709551616) : uv (pre ++ (vb n ++ rest)) pre.length = (n, pre.length + (vb n).length, 0) := by
  simp only [uv, List.drop_left]
  rw [rv_vb n 0 0 rest (by simpa using h)]
  simp
theorem uv_cut (pre : List UInt8) (n j : Nat) (h : n < 18446744073709551616) (hj : j < (vb n).length) : uv (pre ++ (vb n).take j) pre.length = (0, 0, 8) := by
  simp only [uv, List.drop_left]
  rw [rv_cut n 0 0 j (by simpa using h) hj]
  simp
theorem uv_canon {s : List UInt8} {p n q : Nat} (h : uv s p = (n, q, 0)) : p + (vb n).length ≤ q := by
  simp only [uv] at h
  split at h
  · have h0 : (rv 0 0 (s.drop p)) = (n, q - p, 0) ∧ p ≤ q := by
      simp only [Prod.mk.injEq, and_true] at h
      refine ⟨Prod.ext h.1 (Prod.ext ?_ (by assumption)), ?_⟩ <;> (try simp only) <;> omega
    have := rv_short _ 0 0 n (q - p) (by simp) h0.1
    have h2 := vb_le this.1 this.2
    omega
  · simp only [Prod.mk.injEq] at h
    exact absurd h.2.2 (by assumption)
theorem rdV_vb (pre rest : List UInt8) (n most : Nat) (h : n ≤ most) (hm : most < 18446744073709551616) : rdV (pre ++ (vb n ++ rest)) pre.length 0 most = (n, pre.length + (vb n).length, 0) := by
  simp only [rdV, vAt, uv_vb pre rest n (by omega), if_true]
  rw [if_neg (by omega)]
theorem rdV_cut (pre : List UInt8) (n most j : Nat) (h : n ≤ most) (hm : most < 18446744073709551616) (hj : j < (vb n).length) : rdV (pre ++ (vb n).take j) pre.length 0 most = (0, pre.length, 8) := by
  simp only [rdV, vAt, uv_cut pre n j (by omega) hj, if_true]
  rfl
theorem rdV_err (s : List UInt8) (p most : Nat) (e : Int) (h : e ≠ 0) : rdV s p e most = (0, p, e) := by simp only [rdV, if_neg h]
theorem rdB_err (s : List UInt8) (p : Nat) (e : Int) (h : e ≠ 0) : rdB s p e = (0, p, e) := by unfold rdB; rw [if_neg h]
theorem rdT_err (s : List UInt8) (p most : Nat) (e : Int) (h : e ≠ 0) : rdT s p e most = ([], p, e) := by
  simp only [rdT, rdV_err s p most e h, if_neg h]
theorem rdB_at (pre rest : List UInt8) (b : UInt8) : rdB (pre ++ b :: rest) pre.length 0 = (b.toNat, pre.length + 1, 0) := by
  simp [rdB]
theorem rdB_end (pre : List UInt8) : rdB pre pre.length 0 = (0, pre.length, 8) := by
  simp [rdB]
theorem rdT_txt (pre rest t : List UInt8) (most : Nat) (h : t.length ≤ most) (hm : most < 18446744073709551616) :
    rdT (pre ++ (vb t.length ++ (t ++ rest))) pre.length 0 most = (t, pre.length + (vb t.length).length + t.length, 0) := by
  have e : (pre ++ (vb t.length ++ (t ++ rest))).drop (pre.length + (vb t.length).length) = t ++ rest := by
    rw [← List.append_assoc, ← List.length_append, List.drop_left]
  simp only [rdT, rdV_vb pre (t ++ rest) t.length most h hm, if_true]
  rw [if_neg (by simp; omega), e, List.take_left]
theorem rdT_cut (pre t : List UInt8) (most j : Nat) (h : t.length ≤ most) (hm : most < 18446744073709551616) (hj : j < (vb t.length ++ t).length) :
    rdT (pre ++ (vb t.length ++ t).take j) pre.length 0 most = ([], pre.length, 8) := by
  by_cases c : j < (vb t.length).length
  · have e : (vb t.length ++ t).take j = (vb t.length).take j := by rw [List.take_append_of_le_length (by omega)]
    rw [e]
    simp only [rdT, rdV_cut pre t.length most j h hm c]
    rfl
  · obtain ⟨m, rfl⟩ : ∃ m, j = (vb t.length).length + m := ⟨j - (vb t.length).length, by omega⟩
    have e : (vb t.length ++ t).take ((vb t.length).length + m) = vb t.length ++ t.take m := by
      rw [List.take_append, Nat.add_sub_cancel_left, List.take_of_length_le (by omega)]
    rw [e]
    simp only [rdT, rdV_vb pre (t.take m) t.length most h hm, if_true]
    rw [if_pos]
    simp only [List.length_append, List.length_take] at hj ⊢
    omega
theorem rdV_canon {s : List UInt8} {p q n most : Nat} {e : Int} (h : rdV s p e most = (n, q, 0)) : e = 0 ∧ p + (vb n).length ≤ q ∧ n ≤ most := by
  by_cases he : e = 0
  · subst he
    simp only [rdV, if_true, vAt] at h
    split at h
    · split at h
      · simp at h
      · refine ⟨rfl, ?_, ?_⟩
        · apply uv_canon (s := s)
          simp only [Prod.mk.injEq, and_true] at h
          exact Prod.ext h.1 (Prod.ext h.2 (by assumption))
        · simp only [Prod.mk.injEq, and_true] at h
          omega
    · simp only [Prod.mk.injEq] at h
      exact absurd h.2.2 (by assumption)
  · rw [rdV_err s p most e he] at h
    simp only [Prod.mk.injEq] at h
    exact absurd h.2.2 he
theorem rdT_canon {s t : List UInt8} {p q most : Nat} {e : Int} (h : rdT s p e most = (t, q, 0)) : e = 0 ∧ p + (vb t.length).length + t.length ≤ q ∧ t.length ≤ most := by
  simp only [rdT] at h
  split at h
  · split at h
    · simp at h
    · simp only [Prod.mk.injEq, and_true] at h
      obtain ⟨ht, hq⟩ := h
      have hr : rdV s p e most = ((rdV s p e most).1, (rdV s p e most).2.1, 0) := Prod.ext rfl (Prod.ext rfl (by assumption))
      have hc := rdV_canon hr
      have hl : t.length = (rdV s p e most).1 := by
        rw [← ht, List.length_take, List.length_drop]; omega
      refine ⟨hc.1, ?_, ?_⟩
      · rw [hl]; omega
      · rw [hl]; exact hc.2.2
  · simp only [Prod.mk.injEq] at h
    exact absurd h.2.2 (by assumption)
theorem rdB_canon {s : List UInt8} {p q n : Nat} {e : Int} (h : rdB s p e = (n, q, 0)) : e = 0 ∧ p + 1 = q := by
  simp only [rdB] at h
  split at h
  · split at h
    · simp at h
    · simp only [Prod.mk.injEq, and_true] at h
      exact ⟨by assumption, h.2⟩
  · simp only [Prod.mk.injEq] at h
    exact absurd h.2.2 (by assumption)
/-! ### readers in a row -/
abbrev Rd (α : Type) := List UInt8 → Nat → Int → α × Nat × Int
/-- What is written so is read as x; cut short it is short. -/
structure Codec {α : Type} (P : Rd α) (x : α) (bs : List UInt8) : Prop where
  full : ∀ pre rest, P (pre ++ (bs ++ rest)) pre.length 0 = (x, pre.length + bs.length, 0)
  cut : ∀ pre j, j < bs.length → (P (pre ++ bs.take j) pre.length 0).2.2 = 8
def Sticky {α : Type} (P : Rd α) : Prop := ∀ s p e, e ≠ 0 → (P s p e).2.2 = e
/-- What is read well holds, and is no longer, written. -/
def Canon {α : Type} (P : Rd α) (enc : α → List UInt8) (ok : α → Prop) : Prop := ∀ s p e x q, P s p e = (x, q, 0) → e = 0 ∧ p + (enc x).length ≤ q ∧ ok x
/-- One behind the other. -/
def seqR {α β : Type} (P : Rd α) (Q : Rd β) : Rd (α × β) := fun s p e =>
  (((P s p e).1, (Q s (P s p e).2.1 (P s p e).2.2).1), (Q s (P s p e).2.1 (P s p e).2.2).2.1, (Q s (P s p e).2.1 (P s p e).2.2).2.2)
theorem Sticky.seq {α β : Type} {P : Rd α} {Q : Rd β} (h : Sticky P) (k : Sticky Q) : Sticky (seqR P Q) := fun s p e he => by
  have h1 := h s p e he
  show (Q s (P s p e).2.1 (P s p e).2.2).2.2 = e
  rw [h1]
  exact k s _ e he
theorem Codec.seq {α β : Type} {P : Rd α} {Q : Rd β} {x : α} {y : β} {bs cs : List UInt8} (h : Codec P x bs) (k : Codec Q y cs) (hk : Sticky Q) : Codec (seqR P Q) (x, y) (bs ++ cs) where
  full pre rest := by
    have h1 := h.full pre (cs ++ rest)
    have h2 := k.full (pre ++ bs) rest
    simp only [seqR, List.append_assoc] at *
    rw [h1]
    simp only
    rw [List.length_append] at h2
    rw [h2]
    simp [Nat.add_assoc]
  cut pre j hj := by
    show (Q _ (P _ _ 0).2.1 (P _ _ 0).2.2).2.2 = 8
    by_cases c : j < bs.length
    · have e : (bs ++ cs).take j = bs.take j := by rw [List.take_append_of_le_length (by omega)]
      rw [e, h.cut pre j c]
      exact hk _ _ 8 (by decide)
    · obtain ⟨m, rfl⟩ : ∃ m, j = bs.length + m := ⟨j - bs.length, by omega⟩
      have e : (bs ++ cs).take (bs.length + m) = bs ++ cs.take m := by
        rw [List.take_append, Nat.add_sub_cancel_left, List.take_of_length_le (by omega)]
      have h1 := h.full pre (cs.take m)
      have h2 := k.cut (pre ++ bs) m (by simp only [List.length_append] at hj; omega)
      rw [e, h1]
      simp only
      rw [List.append_assoc, List.length_append] at h2
      exact h2
theorem Canon.seq {α β : Type} {P : Rd α} {Q : Rd β} {en : α → List UInt8} {em : β → List UInt8} {ok : α → Prop} {ol : β → Prop} (h : Canon P en ok) (k : Canon Q em ol) :
    Canon (seqR P Q) (fun x => en x.1 ++ em x.2) (fun x => ok x.1 ∧ ol x.2) := by
  rintro s p e ⟨x, y⟩ q hr
  simp only [seqR, Prod.mk.injEq] at hr
  obtain ⟨⟨hx, hy⟩, hq, he⟩ := hr
  have h2 := k s _ _ y q (Prod.ext hy (Prod.ext hq he))
  have h1 := h s p e x _ (Prod.ext hx (Prod.ext rfl h2.1))
  refine ⟨h1.1, ?_, h1.2.2, h2.2.2⟩
  have a1 : p + (en x).length ≤ (P s p e).2.1 := h1.2.1
  have a2 : (P s p e).2.1 + (em y).length ≤ q := h2.2.1
  simp only [List.length_append]
  generalize (P s p e).2.1 = n at *
  omega
theorem rdV_codec {n most : Nat} (h : n ≤ most) (hm : most < 18446744073709551616) : Codec (fun s p e => rdV s p e most) n (vb n) where
  full pre rest := rdV_vb pre rest n most h hm
  cut pre j hj := by simp only [rdV_cut pre n most j h hm hj]
theorem rdV_sticky (most : Nat) : Sticky (fun s p e => rdV s p e most) := fun s p e he => by simp only [rdV_err s p most e he]
theorem rdV_canonP (most : Nat) : Canon (fun s p e => rdV s p e most) vb (fun n => n ≤ most) := fun _ _ _ _ _ h => rdV_canon h
def tb (t : List UInt8) : List UInt8 := vb t.length ++ t
theorem rdT_codec {t : List UInt8} {most : Nat} (h : t.length ≤ most) (hm : most < 18446744073709551616) : Codec (fun s p e => rdT s p e most) t (tb t) where
  full pre rest := by
    have := rdT_txt pre rest t most h hm
    unfold tb
    rw [List.append_assoc, this, List.length_append, Nat.add_assoc]
  cut pre j hj := by
    have := rdT_cut pre t most j h hm hj
    unfold tb
    simp only [this]
theorem rdT_sticky (most : Nat) : Sticky (fun s p e => rdT s p e most) := fun s p e he => by simp only [rdT_err s p most e he]
theorem rdT_canonP (most : Nat) : Canon (fun s p e => rdT s p e most) tb (fun t => t.length ≤ most) := fun _ _ _ _ _ h => by
  have := rdT_canon h
  refine ⟨this.1, ?_, this.2.2⟩
  unfold tb
  rw [List.length_append]
  omega
theorem rdB_codec (b : UInt8) : Codec rdB b.toNat [b] where
  full pre rest := rdB_at pre rest b
  cut pre j hj := by
    obtain rfl : j = 0 := by simpa using hj
    simp only [List.take_zero, List.append_nil, rdB_end]
theorem rdB_sticky : Sticky rdB := fun s p e he => by simp only [rdB_err s p e he]
theorem rdB_canonP : Canon rdB (fun n => [UInt8.ofNat n]) (fun n => n < 256) := fun s p e x q h => by
  have := rdB_canon h
  refine ⟨this.1, by simp; omega, ?_⟩
  simp only [rdB] at h
  split at h
  · split at h
    · simp at h
    · simp only [Prod.mk.injEq] at h
      rw [← h.1]
      exact UInt8.toNat_lt _
  · simp only [Prod.mk.injEq] at h
    exact absurd h.2.2 (by assumption)
/-! ### records, plainly -/
structure Rc where
  rep : List UInt8
  ep : Int
  tm : Int
  gone : Bool
deriving DecidableEq
structure Tn where
  live : Int
  ep : Int
deriving DecidableEq
def noRc : Rc := ⟨[], 0, 0, false⟩
def noTn : Tn := ⟨0, 0⟩
def Rc.may (r : Rc) : Bool := mayRec ⟨r.rep.toArray⟩ r.ep r.tm
def Tn.may (t : Tn) : Bool := mayTen t.live t.ep
def Rc.bytes (r : Rc) : List UInt8 := tb r.rep ++ (vb r.ep.toNat ++ (vb r.tm.toNat ++ [if r.gone then 1 else 0]))
def Tn.bytes (t : Tn) : List UInt8 := vb t.live.toNat ++ vb t.ep.toNat
def recR : Rd (List UInt8 × Nat × Nat × Nat) := seqR (fun s p e => rdT s p e 24) (seqR (fun s p e => rdV s p e 1099511627776) (seqR (fun s p e => rdV s p e 1125899906842624) rdB))
def tenR : Rd (Nat × Nat) := seqR (fun s p e => rdV s p e 1048576) (fun s p e => rdV s p e 1099511627776)
def decRc (s : List UInt8) : Rc × Int :=
  let d := recR s 0 0
  let r : Rc := ⟨d.1.1, d.1.2.1, d.1.2.2.1, decide (d.1.2.2.2 = 1)⟩
  if d.2.2 ≠ 0 then (noRc, d.2.2) else if d.2.1 < s.length ∨ 1 < d.1.2.2.2 ∨ r.may = false then (noRc, 4) else (r, 0)
def decTn (s : List UInt8) : Tn × Int :=
  let d := tenR s 0 0
  let t : Tn := ⟨d.1.1, d.1.2⟩
  if d.2.2 ≠ 0 then (noTn, d.2.2) else if d.2.1 < s.length ∨ t.may = false then (noTn, 4) else (t, 0)
theorem may_bd {r : Rc} (h : r.may = true) : 1 ≤ r.ep ∧ r.ep ≤ 1099511627776 ∧ 0 ≤ r.tm ∧ r.tm ≤ 1125899906842624 ∧ r.rep.length ≤ 24 ∧ isName r.rep = true := by
  have := mayRec_bd h
  rw [Lib.size_eq] at this
  exact this
theorem recR_codec {r : Rc} (h : r.may = true) : Codec recR (r.rep, r.ep.toNat, r.tm.toNat, (if r.gone then 1 else 0)) r.bytes := by
  obtain ⟨h1, h2, h3, h4, h5, _⟩ := may_bd h
  have hb : Codec rdB (if r.gone then 1 else 0) [if r.gone then 1 else 0] := by
    cases r.gone
    · exact rdB_codec 0
    · exact rdB_codec 1
  exact (rdT_codec h5 (by omega)).seq ((rdV_codec (by omega) (by omega)).seq ((rdV_codec (by omega) (by omega)).seq hb rdB_sticky) ((rdV_sticky _).seq rdB_sticky)) ((rdV_sticky _).seq ((rdV_sticky _).seq rdB_sticky))
theorem tenR_codec {t : Tn} (h : t.may = true) : Codec tenR (t.live.toNat, t.ep.toNat) t.bytes := by
  obtain ⟨h1, h2, h3, h4, h5⟩ := mayTen_bd h
  exact (rdV_codec (by omega) (by omega)).seq (rdV_codec (by omega) (by omega)) (rdV_sticky _)
theorem decRc_full {r : Rc} (h : r.may = true) (more : List UInt8) : decRc (r.bytes ++ more) = if more = [] then (r, 0) else (noRc, 4) := by
  obtain ⟨h1, h2, h3, h4, h5, _⟩ := may_bd h
  have hc := (recR_codec h).full [] more
  simp only [List.nil_append, List.length_nil, Nat.zero_add] at hc
  have e1 : ((r.ep.toNat : Nat) : Int) = r.ep := by omega
  have e2 : ((r.tm.toNat : Nat) : Int) = r.tm := by omega
  have e3 : (⟨r.rep, ((r.ep.toNat : Nat) : Int), ((r.tm.toNat : Nat) : Int), decide ((if r.gone = true then 1 else 0) = 1)⟩ : Rc) = r := by
    rw [e1, e2]
    cases r with
    | mk a b c g => cases g <;> rfl
  have e4 : ¬ 1 < (if r.gone = true then 1 else 0) := by split <;> omega
  simp only [decRc, hc, e3, ne_eq, not_true_eq_false, if_false, h, e4, false_or, List.length_append]
  cases more with
  | nil => simp
  | cons b l => simp
theorem decTn_full {t : Tn} (h : t.may = true) (more : List UInt8) : decTn (t.bytes ++ more) = if more = [] then (t, 0) else (noTn, 4) := by
  obtain ⟨h1, h2, h3, h4, h5⟩ := mayTen_bd h
  have hc := (tenR_codec h).full [] more
  simp only [List.nil_append, List.length_nil, Nat.zero_add] at hc
  have e3 : (⟨((t.live.toNat : Nat) : Int), ((t.ep.toNat : Nat) : Int)⟩ : Tn) = t := by
    cases t with
    | mk a b => simp only at *; congr 1 <;> omega
  simp only [decTn, hc, e3, ne_eq, not_true_eq_false, if_false, h, List.length_append]
  cases more with
  | nil => simp
  | cons b l => simp
theorem decRc_cut {r : Rc} (h : r.may = true) {j : Nat} (hj : j < r.bytes.length) : decRc (r.bytes.take j) = (noRc, 8) := by
  have hc := (recR_codec h).cut [] j hj
  simp only [List.nil_append, List.length_nil] at hc
  simp only [decRc, hc]
  rfl
theorem decTn_cut {t : Tn} (h : t.may = true) {j : Nat} (hj : j < t.bytes.length) : decTn (t.bytes.take j) = (noTn, 8) := by
  have hc := (tenR_codec h).cut [] j hj
  simp only [List.nil_append, List.length_nil] at hc
  simp only [decTn, hc]
  rfl
theorem decRc_ok {s : List UInt8} {r : Rc} (h : decRc s = (r, 0)) : r.may = true ∧ r.bytes.length ≤ s.length := by
  have hcan : Canon recR _ _ := (rdT_canonP 24).seq ((rdV_canonP 1099511627776).seq ((rdV_canonP 1125899906842624).seq rdB_canonP))
  have hb : (recR s 0 0).2.1 ≤ s.length := by
    have b1 := rdT_bd (s := s) (p := 0) (by omega) 0 24
    have b2 := rdV_bd b1.1 (rdT s 0 0 24).2.2 1099511627776
    have b3 := rdV_bd b2.1 (rdV s (rdT s 0 0 24).2.1 (rdT s 0 0 24).2.2 1099511627776).2.2 1125899906842624
    exact (rdB_bd b3.1 _).1
  simp only [decRc] at h
  by_cases c1 : (recR s 0 0).2.2 = 0
  · rw [if_neg (by simpa using c1)] at h
    split at h
    · simp at h
    · rename_i c2
      simp only [Prod.mk.injEq, and_true] at h
      obtain ⟨c3, c4, c5⟩ : ¬ (recR s 0 0).2.1 < s.length ∧ ¬ 1 < (recR s 0 0).1.2.2.2 ∧ _ := by
        refine ⟨fun c => c2 (Or.inl c), fun c => c2 (Or.inr (Or.inl c)), fun c => c2 (Or.inr (Or.inr c))⟩
      rw [h] at c5
      refine ⟨by simpa using c5, ?_⟩
      have hk := hcan s 0 0 (recR s 0 0).1 (recR s 0 0).2.1 (Prod.ext rfl (Prod.ext rfl c1))
      have hl := hk.2.1
      rw [← h]
      generalize (recR s 0 0).2.1 = n at *
      generalize (recR s 0 0).1 = v at *
      simp only [Rc.bytes, List.length_append, Int.toNat_natCast] at hl ⊢
      simp at hl ⊢
      omega
  · rw [if_pos (by simpa using c1)] at h
    simp only [Prod.mk.injEq] at h
    exact absurd h.2 c1
theorem decTn_ok {s : List UInt8} {t : Tn} (h : decTn s = (t, 0)) : t.may = true ∧ t.bytes.length ≤ s.length := by
  have hcan : Canon tenR _ _ := (rdV_canonP 1048576).seq (rdV_canonP 1099511627776)
  have hb : (tenR s 0 0).2.1 ≤ s.length := by
    have b1 := rdV_bd (s := s) (p := 0) (by omega) 0 1048576
    exact (rdV_bd b1.1 (rdV s 0 0 1048576).2.2 1099511627776).1
  simp only [decTn] at h
  by_cases c1 : (tenR s 0 0).2.2 = 0
  · rw [if_neg (by simpa using c1)] at h
    split at h
    · simp at h
    · rename_i c2
      simp only [Prod.mk.injEq, and_true] at h
      obtain ⟨c3, c5⟩ : ¬ (tenR s 0 0).2.1 < s.length ∧ _ := by
        refine ⟨fun c => c2 (Or.inl c), fun c => c2 (Or.inr c)⟩
      rw [h] at c5
      refine ⟨by simpa using c5, ?_⟩
      have hk := hcan s 0 0 (tenR s 0 0).1 (tenR s 0 0).2.1 (Prod.ext rfl (Prod.ext rfl c1))
      have hl := hk.2.1
      rw [← h]
      generalize (tenR s 0 0).2.1 = n at *
      generalize (tenR s 0 0).1 = v at *
      simp only [Tn.bytes, List.length_append, Int.toNat_natCast] at hl ⊢
      omega
  · rw [if_pos (by simpa using c1)] at h
    simp only [Prod.mk.injEq] at h
    exact absurd h.2 c1
theorem bytes_rec (r : Rc) : nb (recBytes ⟨r.rep.toArray⟩ r.ep r.tm r.gone) = r.bytes := by
  unfold recBytes txt Rc.bytes tb vb
  simp only [nb_append, nb_bytesOf, List.append_assoc, Lib.size_eq]
  cases r.gone <;> rfl
theorem bytes_ten (t : Tn) : nb (tenBytes t.live t.ep) = t.bytes := by
  unfold tenBytes Tn.bytes vb
  rw [nb_append]
theorem rc_len {r : Rc} (h : r.may = true) : r.bytes.length ≤ 128 := by
  obtain ⟨h1, h2, h3, h4, h5, _⟩ := may_bd h
  have a := vb_le (n := r.rep.length) (k := 1) (by omega) (by omega)
  have b := vb_le (n := r.ep.toNat) (k := 10) (by omega) (by omega)
  have c := vb_le (n := r.tm.toNat) (k := 10) (by omega) (by omega)
  unfold Rc.bytes tb
  simp only [List.length_append, List.length_singleton]
  omega
theorem tn_len {t : Tn} (h : t.may = true) : t.bytes.length ≤ 128 := by
  obtain ⟨h1, h2, h3, h4, h5⟩ := mayTen_bd h
  have b := vb_le (n := t.live.toNat) (k := 10) (by omega) (by omega)
  have c := vb_le (n := t.ep.toNat) (k := 10) (by omega) (by omega)
  unfold Tn.bytes
  simp only [List.length_append]
  omega
theorem rc_pos {r : Rc} : 0 < r.bytes.length := by unfold Rc.bytes; simp only [List.length_append, List.length_singleton]; omega
theorem tn_pos {t : Tn} : 0 < t.bytes.length := by
  have := vb_pos t.live.toNat
  unfold Tn.bytes; simp only [List.length_append]; omega
end Go.Proofs.Ytobanhbjkomieaa.RP
