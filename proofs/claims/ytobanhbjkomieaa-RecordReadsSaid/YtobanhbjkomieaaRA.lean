import Derived.Test.YtobanhbjkomieaaKQ
import Derived.Test.YtobanhbjkomieaaBR
import Derived.Deep.RegionHeld3
namespace Go.Proofs.Ytobanhbjkomieaa.RP
open Go.RowKit Go.Proofs.Ytobanhbjkomieaa.PAll Go.Proofs.Ytobanhbjkomieaa.KP Go.Proofs.Ytobanhbjkomieaa.BP Go.Proofs.YtobanhbjkomieaaW.PrintWords Go.Proofs.YtobanhbjkomieaaW.PrintLast Go.Proofs.YtobanhbjkomieaaW.PrintMore
/-! ### records: which may be, their bytes -/
def mayRec (rep : ByteArray) (ep tm : Int) : Bool := isName rep.data.toList && decide (1 ≤ ep ∧ ep ≤ 1099511627776 ∧ 0 ≤ tm ∧ tm ≤ 1125899906842624)
def mayTen (live ep : Int) : Bool := decide (0 ≤ ep ∧ ep ≤ 1099511627776 ∧ 0 ≤ live ∧ live ≤ 1048576 ∧ live ≤ ep)
def recBytes (rep : ByteArray) (ep tm : Int) (gone : Bool) : List Int := txt rep ++ vint ep.toNat ++ vint tm.toNat ++ [if gone then 1 else 0]
def tenBytes (live ep : Int) : List Int := vint live.toNat ++ vint ep.toNat
theorem may_ev (rep : ByteArray) (hs : rep.size ≤ 140737488351232) (ep tm : Int) (gone : Bool) : Ev (fun k => record_May.f k rep ep tm gone) (mayRec rep ep tm) := by
  unfold mayRec
  obtain ⟨⟨l⟩⟩ := rep
  refine Ev.bind (name_ev l (by rw [size_mk] at hs; exact hs)) ?_
  cases h : isName l
  · exact Ev.now _
  · simp only [if_true]
    refine Ev.congr (f := fun _ => some _) (fun k => ?_) (Ev.now _)
    simp only [Bool.true_and]
    repeat' split
    all_goals (congr 1; rw [Bool.eq_iff_iff]; simp; try omega)
theorem refmay_ev (rep : ByteArray) (hs : rep.size ≤ 140737488351232) (ep tm : Int) (gone : Bool) : Ev (fun k => batonref18_May.f k rep ep tm gone) (mayRec rep ep tm) := by
  unfold mayRec
  obtain ⟨⟨l⟩⟩ := rep
  refine Ev.bind (rname_ev l (by rw [size_mk] at hs; exact hs)) ?_
  cases h : isName l
  · exact Ev.now _
  · simp only [if_true]
    refine Ev.congr (f := fun _ => some _) (fun k => ?_) (Ev.now _)
    simp only [Bool.true_and]
    repeat' split
    all_goals (congr 1; rw [Bool.eq_iff_iff]; simp; try omega)
theorem mayten_eq (live ep : Int) : record_MayTenant.f live ep = some (mayTen live ep) := by
  unfold record_MayTenant.f mayTen
  repeat' split
  all_goals (congr 1; rw [Bool.eq_iff_iff]; simp; try omega)
theorem refmayten_eq (live ep : Int) : batonref18_MayTenant.f live ep = some (mayTen live ep) := by
  unfold batonref18_MayTenant.f mayTen
  repeat' split
  all_goals (congr 1; rw [Bool.eq_iff_iff]; simp; try omega)
section
variable (rep : ByteArray) (hs : rep.size ≤ 140737488351232) (ep tm : Int) (gone : Bool) (w : World)
include hs
theorem recMay_any : Calls Try.prog 85 #[.agg #[.string rep, .int .i64 ep, .int .i64 tm, .bool gone]] w fun e w' => e = .returned (.bool (mayRec rep ep tm)) ∧ Below w.heap.size w w' :=
  ev_calls (may_ev rep hs ep tm gone) (fun k h => record_May.calls k _ _ _ _ _ w h)
theorem refRecMay_any : Calls Try.prog 86 #[.agg #[.string rep, .int .i64 ep, .int .i64 tm, .bool gone]] w fun e w' => e = .returned (.bool (mayRec rep ep tm)) ∧ Below w.heap.size w w' :=
  ev_calls (refmay_ev rep hs ep tm gone) (fun k h => batonref18_May.calls k _ _ _ _ _ w h)
end
theorem tenMay_any (live ep : Int) (w : World) : Calls Try.prog 87 #[.agg #[.int .i64 live, .int .i64 ep]] w fun e w' => e = .returned (.bool (mayTen live ep)) ∧ Below w.heap.size w w' :=
  record_MayTenant.calls _ _ _ w (mayten_eq live ep)
theorem refTenMay_any (live ep : Int) (w : World) : Calls Try.prog 88 #[.agg #[.int .i64 live, .int .i64 ep]] w fun e w' => e = .returned (.bool (mayTen live ep)) ∧ Below w.heap.size w w' :=
  batonref18_MayTenant.calls _ _ _ w (refmayten_eq live ep)
theorem strOfNums_append (a b : List Int) : strOfNums a ++ strOfNums b = strOfNums (a ++ b) := by
  apply WideShapes.bytes_inj
  simp [strOfNums]
theorem strOfNums_bytes (s : ByteArray) : strOfNums (bytesOf s) = s := by
  apply WideShapes.bytes_inj
  have e : ((fun n : Int => UInt8.ofNat n.toNat) ∘ fun b : UInt8 => (b.toNat : Int)) = id := by funext b; simp
  simp [strOfNums, bytesOf, e]
set_option maxHeartbeats 8000000 in
set_option maxRecDepth 100000 in
theorem refText_any (s : ByteArray) (hs : s.size ≤ 140737488351232) (w : World) : Calls Try.prog 159 #[.string s] w fun e w' => e = .returned (.string (strOfNums (txt s))) ∧ Below w.heap.size w w' := by
  have hv := refVarint_any 9 s.size
  have HV := Lib.hid hv
  clear hv
  have hl := vint_len10 (n := s.size) (by omega)
  have he : strOfNums (txt s) = strOfNums (vint s.size) ++ s := by
    unfold txt
    rw [← strOfNums_append, strOfNums_bytes]
  rw [he]
  clear he
  have hsum : (strOfNums (vint s.size)).size + s.size ≤ 9223372036854775807 := by rw [strOfNums_size]; omega
  have hsum2 : (9223372036854775807 < (strOfNums (vint s.size)).size + s.size) = False := eq_false (by omega)
  generalize vint s.size = V at *
  go_enter Try.func159, Try.ntmps159
  go_wp2_with fail
  refine (HV.out _ (by omega) (by omega)).mono ?_
  rintro e w1 ⟨rfl, hb1⟩
  go_wp2
  go_ret
  exact ⟨rfl, hb1⟩
theorem txt_len {s : ByteArray} (hs : s.size ≤ 140737488351232) : (txt s).length ≤ s.size + 10 := by
  have := vint_len10 (n := s.size) (by omega)
  unfold txt
  rw [List.length_append, bytesOf_length]
  omega
theorem keep_cell {W x : World} {a : Addr} {v : Value} (hb : Below W.heap.size W x) (h : W.cell? a = some v) : x.cell? a = some v :=
  (hb.cell (p := a) (World.block_lt_of_cell? _ _ h)).trans h
theorem below_next {w W x : World} {m : Nat} (h : Below w.heap.size w W) (k : Below (W.drewN m).heap.size (W.drewN m) x) : Below w.heap.size w x := (pw_below_drewN h m).trans (k.mono h.size)
theorem below_next0 {w W x : World} (h : Below w.heap.size w W) (k : Below W.heap.size W x) : Below w.heap.size w x := h.trans (k.mono h.size)
theorem refVarint_at (a : Int) (h0 : 0 ≤ a) (h1 : a < 18446744073709551616) (W : World) : Calls Try.prog 160 #[.int .u64 a] W fun e w' => e = .returned (.string (strOfNums (vint a.toNat))) ∧ Below W.heap.size W w' := by
  obtain ⟨n, rfl⟩ := Int.eq_ofNat_of_zero_le h0
  exact refVarint_any 9 n W (by omega) (by omega)
/-- The reference's Encode. -/
def encRes (rep : ByteArray) (ep tm : Int) (gone : Bool) : Value := if mayRec rep ep tm then .tuple #[.string (strOfNums (recBytes rep ep tm gone)), .int .i64 0] else .tuple #[.string ⟨#[]⟩, .int .i64 4]
def encTenRes (live ep : Int) : Value := if mayTen live ep then .tuple #[.string (strOfNums (tenBytes live ep)), .int .i64 0] else .tuple #[.string ⟨#[]⟩, .int .i64 4]
theorem mayRec_bd {rep : ByteArray} {ep tm : Int} (h : mayRec rep ep tm = true) : 1 ≤ ep ∧ ep ≤ 1099511627776 ∧ 0 ≤ tm ∧ tm ≤ 1125899906842624 ∧ rep.size ≤ 24 ∧ isName rep.data.toList = true := by
  unfold mayRec at h
  rw [Bool.and_eq_true, decide_eq_true_eq] at h
  have := isName_len h.1
  rw [← Lib.size_eq] at this
  exact ⟨h.2.1, h.2.2.1, h.2.2.2.1, h.2.2.2.2, this.2, h.1⟩
theorem mayTen_bd {live ep : Int} (h : mayTen live ep = true) : 0 ≤ ep ∧ ep ≤ 1099511627776 ∧ 0 ≤ live ∧ live ≤ 1048576 ∧ live ≤ ep := of_decide_eq_true h
set_option maxHeartbeats 8000000 in
set_option maxRecDepth 100000 in
theorem refEncodeTen_any (live ep : Int) (w : World) : Calls Try.prog 84 #[.agg #[.int .i64 live, .int .i64 ep]] w fun e w' => e = .returned (encTenRes live ep) ∧ Below w.heap.size w w' := by
  unfold encTenRes
  cases hm : mayTen live ep
  · have hc := refTenMay_any live ep
    rw [hm] at hc
    have HC := Lib.hid hc
    clear hc hm
    simp only [Bool.false_eq_true, if_false]
    go_enter Try.func84, Try.ntmps84
    go_wp2_with fail
    refine (HC.out _).mono ?_
    rintro e w1 ⟨rfl, hb1⟩
    go_wp2
    go_ret2
    exact ⟨rfl, ((Below.refl _ _).alloc (Nat.le_refl _) _).trans (hb1.mono (by simp))⟩
  · have hbd := mayTen_bd hm
    have hc := refTenMay_any live ep
    rw [hm] at hc
    have HC := Lib.hid hc
    clear hc hm
    obtain ⟨n, rfl⟩ := Int.eq_ofNat_of_zero_le hbd.2.2.1
    obtain ⟨m, rfl⟩ := Int.eq_ofNat_of_zero_le hbd.1
    simp only [if_true]
    go_enter Try.func84, Try.ntmps84
    go_wp2_with fail
    refine (HC.out _).mono ?_
    rintro e w1 ⟨rfl, hb1⟩
    go_wp2_with fail
    have c0 : w1.cell? ⟨w.heap.size, 0, none⟩ = some (.int .i64 n) := keep_cell hb1 (by simp)
    have c1 : w1.cell? ⟨w.heap.size, 1, none⟩ = some (.int .i64 m) := keep_cell hb1 (by simp)
    have hl1 := vint_len10 (n := n) (by omega)
    have hl2 := vint_len10 (n := m) (by omega)
    have hsum : (strOfNums (vint n)).size + (strOfNums (vint m)).size ≤ 9223372036854775807 := by rw [strOfNums_size, strOfNums_size]; omega
    have hsum2 : (9223372036854775807 < (strOfNums (vint n)).size + (strOfNums (vint m)).size) = False := eq_false (by omega)
    have HE : Hid (strOfNums (tenBytes n m) = strOfNums (vint n) ++ strOfNums (vint m)) := Lib.hid (by rw [strOfNums_append]; rfl)
    have hbw : Below w.heap.size w w1 := below_next0 ((Below.refl _ _).alloc (Nat.le_refl _) _) hb1
    have hw1 : IntKind.u64.wrap (n : Int) = n := by rw [IntKind.wrap_u64]; omega
    have hw2 : IntKind.u64.wrap (m : Int) = m := by rw [IntKind.wrap_u64]; omega
    go_region_with (go_at_call 160; refine (refVarint_at _ (by omega) (by omega) _).mono ?_; rintro e x5 ⟨rfl, hb5⟩; (try have c0' := keep_cell hb5 c0); (try have c1' := keep_cell hb5 c1); (first | have hbw := below_next0 hbw hb5 | have hbw := below_next hbw hb5))
    all_goals go_wp2
    all_goals go_ret2
    all_goals exact ⟨by rw [HE.out]; rfl, by first | exact hbw | exact pw_below_drewN hbw _⟩
set_option maxHeartbeats 16000000 in
set_option maxRecDepth 100000 in
theorem refEncode_any (rep : ByteArray) (hs : rep.size ≤ 140737488351232) (ep tm : Int) (gone : Bool) (w : World) : Calls Try.prog 82 #[.agg #[.string rep, .int .i64 ep, .int .i64 tm, .bool gone]] w fun e w' => e = .returned (encRes rep ep tm gone) ∧ Below w.heap.size w w' := by
  unfold encRes
  cases hm : mayRec rep ep tm
  · have hc := refRecMay_any rep hs ep tm gone
    rw [hm] at hc
    have HC := Lib.hid hc
    clear hc hm
    simp only [Bool.false_eq_true, if_false]
    go_enter Try.func82, Try.ntmps82
    go_wp2_with fail
    refine (HC.out _).mono ?_
    rintro e w1 ⟨rfl, hb1⟩
    go_wp2
    go_ret2
    exact ⟨rfl, ((Below.refl _ _).alloc (Nat.le_refl _) _).trans (hb1.mono (by simp))⟩
  · have hbd := mayRec_bd hm
    have hc := refRecMay_any rep hs ep tm gone
    rw [hm] at hc
    have HC := Lib.hid hc
    clear hc hm
    obtain ⟨b1, b2, b3, b4, b5, b6⟩ := hbd
    obtain ⟨n, rfl⟩ := Int.eq_ofNat_of_zero_le (show 0 ≤ ep by omega)
    obtain ⟨m, rfl⟩ := Int.eq_ofNat_of_zero_le b3
    have hl1 := vint_len10 (n := n) (by omega)
    have hl2 := vint_len10 (n := m) (by omega)
    have hl0 := txt_len hs
    have HE : Hid (strOfNums (recBytes rep n m gone) = strOfNums (txt rep) ++ strOfNums (vint n) ++ strOfNums (vint m) ++ (if gone then ⟨#[1]⟩ else ⟨#[0]⟩)) := by
      refine Lib.hid ?_
      unfold recBytes
      rw [← strOfNums_append, ← strOfNums_append, ← strOfNums_append]
      cases gone <;> rfl
    have s1 : (strOfNums (txt rep)).size + (strOfNums (vint n)).size ≤ 9223372036854775807 := by rw [strOfNums_size, strOfNums_size]; omega
    have s1' : (9223372036854775807 < (strOfNums (txt rep)).size + (strOfNums (vint n)).size) = False := eq_false (by omega)
    have s2 : (strOfNums (txt rep) ++ strOfNums (vint n)).size + (strOfNums (vint m)).size ≤ 9223372036854775807 := by rw [ByteArray.size_append, strOfNums_size, strOfNums_size, strOfNums_size]; omega
    have s2' : (9223372036854775807 < (strOfNums (txt rep) ++ strOfNums (vint n)).size + (strOfNums (vint m)).size) = False := eq_false (by omega)
    have s3 : (strOfNums (txt rep) ++ strOfNums (vint n) ++ strOfNums (vint m)).size ≤ 1000000 := by rw [ByteArray.size_append, ByteArray.size_append, strOfNums_size, strOfNums_size, strOfNums_size]; omega
    have s4 : (strOfNums (txt rep)).size + (strOfNums (vint n)).size + (strOfNums (vint m)).size ≤ 1000000 := by rw [strOfNums_size, strOfNums_size, strOfNums_size]; omega
    have s4' : (9223372036854775807 < (strOfNums (txt rep)).size + (strOfNums (vint n)).size + (strOfNums (vint m)).size) = False := eq_false (by omega)
    simp only [if_true]
    go_enter Try.func82, Try.ntmps82
    go_wp2_with fail
    refine (HC.out _).mono ?_
    rintro e w1 ⟨rfl, hbb⟩
    go_wp2_with fail
    have c0 : w1.cell? ⟨w.heap.size, 0, none⟩ = some (.string rep) := keep_cell hbb (by simp)
    have c1 : w1.cell? ⟨w.heap.size, 1, none⟩ = some (.int .i64 n) := keep_cell hbb (by simp)
    have c2 : w1.cell? ⟨w.heap.size, 2, none⟩ = some (.int .i64 m) := keep_cell hbb (by simp)
    have c3 : w1.cell? ⟨w.heap.size, 3, none⟩ = some (.bool gone) := keep_cell hbb (by simp)
    have hbw : Below w.heap.size w w1 := below_next0 ((Below.refl _ _).alloc (Nat.le_refl _) _) hbb
    have hw1 : IntKind.u64.wrap (n : Int) = n := by rw [IntKind.wrap_u64]; omega
    have hw2 : IntKind.u64.wrap (m : Int) = m := by rw [IntKind.wrap_u64]; omega
    go_region_held3 (fun W => W.cell? ⟨w.heap.size, 0, none⟩ = some (.string rep) ∧ W.cell? ⟨w.heap.size, 1, none⟩ = some (.int .i64 n) ∧ W.cell? ⟨w.heap.size, 2, none⟩ = some (.int .i64 m) ∧ W.cell? ⟨w.heap.size, 3, none⟩ = some (.bool gone)) (go_keep) (first | (go_at_call 159; refine (refText_any _ hs _).mono ?_; rintro e x5 ⟨rfl, hb5⟩; have d0 := keep_cell (a := ⟨w.heap.size, 0, none⟩) (v := .string rep) hb5 (by simp [*]); have d1 := keep_cell (a := ⟨w.heap.size, 1, none⟩) (v := .int .i64 n) hb5 (by simp [*]); have d2 := keep_cell (a := ⟨w.heap.size, 2, none⟩) (v := .int .i64 m) hb5 (by simp [*]); have d3 := keep_cell (a := ⟨w.heap.size, 3, none⟩) (v := .bool gone) hb5 (by simp [*]); (first | have hbw := below_next0 hbw hb5 | have hbw := below_next hbw hb5)) | (go_at_call 160; refine (refVarint_at _ (by omega) (by omega) _).mono ?_; rintro e x5 ⟨rfl, hb5⟩; have d0 := keep_cell (a := ⟨w.heap.size, 0, none⟩) (v := .string rep) hb5 (by simp [*]); have d1 := keep_cell (a := ⟨w.heap.size, 1, none⟩) (v := .int .i64 n) hb5 (by simp [*]); have d2 := keep_cell (a := ⟨w.heap.size, 2, none⟩) (v := .int .i64 m) hb5 (by simp [*]); have d3 := keep_cell (a := ⟨w.heap.size, 3, none⟩) (v := .bool gone) hb5 (by simp [*]); (first | have hbw := below_next0 hbw hb5 | have hbw := below_next hbw hb5)))
    have s5 : (9223372036854775807 < (strOfNums (txt rep)).size + (strOfNums (vint n)).size + (strOfNums (vint m)).size + 1) = False := eq_false (by omega)
    have HV := Lib.hid hbw
    clear hbw
    cases gone
    · go_wp2
      go_ret2
      exact ⟨by rw [HE.out]; rfl, by first | exact HV.out | exact pw_below_drewN HV.out _⟩
    · go_wp2
      go_ret2
      exact ⟨by rw [HE.out]; rfl, by first | exact HV.out | exact pw_below_drewN HV.out _⟩
end Go.Proofs.Ytobanhbjkomieaa.RP
