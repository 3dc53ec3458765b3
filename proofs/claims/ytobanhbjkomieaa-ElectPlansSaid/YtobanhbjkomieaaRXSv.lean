import Derived.Test.YtobanhbjkomieaaKZSv
import Derived.Test.YtobanhbjkomieaaBZSv
import Derived.Deep.RegionHeld3
import Derived.Test.YtobanhbjkomieaaPRdx0Sv
import Derived.Test.YtobanhbjkomieaaPRdx1Sv
namespace Go.Proofs.Ytobanhbjkomieaa.RP
open Go.RowKit Go.Proofs.Ytobanhbjkomieaa.PAll Go.Proofs.Ytobanhbjkomieaa.KP Go.Proofs.Ytobanhbjkomieaa.BP Go.Proofs.YtobanhbjkomieaaW.PrintWords Go.Proofs.YtobanhbjkomieaaW.PrintLast Go.Proofs.YtobanhbjkomieaaW.PrintMore
def mayRec (rep : ByteArray) (ep tm : Int) : Bool := isName rep.data.toList && decide (1 ≤ ep ∧ ep ≤ 1099511627776 ∧ 0 ≤ tm ∧ tm ≤ 1125899906842624)
def mayTen (live ep : Int) : Bool := decide (0 ≤ ep ∧ ep ≤ 1099511627776 ∧ 0 ≤ live ∧ live ≤ 1048576 ∧ live ≤ ep)
def recBytes (rep : ByteArray) (ep tm : Int) (gone : Bool) : List Int := txt rep ++ vint ep.toNat ++ vint tm.toNat ++ [if gone then 1 else 0]
def tenBytes (live ep : Int) : List Int := vint live.toNat ++ vint ep.toNat
theorem may_ev (rep : ByteArray) (hs : rep.size ≤ 140737488351232) (ep tm : Int) (gone : Bool) : Ev (fun k => record_May.f k rep ep tm gone) (mayRec rep ep tm) := by
  unfold mayRec
  obtain ⟨⟨l⟩⟩ := rep
  refine Ev.bind (name_ev l (by rw [size_mk] at hs; exact hs)) ?_
  cases h : isName l
  · exact Ev.now _
  · simp only [if_true]
    refine Ev.congr (f := fun _ => some _) (fun k => ?_) (Ev.now _)
    simp only [Bool.true_and]
    repeat' split
    all_goals (congr 1; rw [Bool.eq_iff_iff]; simp; try omega)
theorem refmay_ev (rep : ByteArray) (hs : rep.size ≤ 140737488351232) (ep tm : Int) (gone : Bool) : Ev (fun k => batonref18_May.f k rep ep tm gone) (mayRec rep ep tm) := by
  unfold mayRec
  obtain ⟨⟨l⟩⟩ := rep
  refine Ev.bind (rname_ev l (by rw [size_mk] at hs; exact hs)) ?_
  cases h : isName l
  · exact Ev.now _
  · simp only [if_true]
    refine Ev.congr (f := fun _ => some _) (fun k => ?_) (Ev.now _)
    simp only [Bool.true_and]
    repeat' split
    all_goals (congr 1; rw [Bool.eq_iff_iff]; simp; try omega)
theorem mayten_eq (live ep : Int) : record_MayTenant.f live ep = some (mayTen live ep) := by
  unfold record_MayTenant.f mayTen
  repeat' split
  all_goals (congr 1; rw [Bool.eq_iff_iff]; simp; try omega)
theorem refmayten_eq (live ep : Int) : batonref18_MayTenant.f live ep = some (mayTen live ep) := by
  unfold batonref18_MayTenant.f mayTen
  repeat' split
  all_goals (congr 1; rw [Bool.eq_iff_iff]; simp; try omega)
section
variable (rep : ByteArray) (hs : rep.size ≤ 140737488351232) (ep tm : Int) (gone : Bool) (w : World)
include hs
theorem recMay_any : Calls Try.prog 85 #[.agg #[.string rep, .int .i64 ep, .int .i64 tm, .bool gone]] w fun e w' => e = .returned (.bool (mayRec rep ep tm)) ∧ Below w.heap.size w w' :=
  ev_calls (may_ev rep hs ep tm gone) (fun k h => record_May.calls k _ _ _ _ _ w h)
theorem refRecMay_any : Calls Try.prog 86 #[.agg #[.string rep, .int .i64 ep, .int .i64 tm, .bool gone]] w fun e w' => e = .returned (.bool (mayRec rep ep tm)) ∧ Below w.heap.size w w' :=
  ev_calls (refmay_ev rep hs ep tm gone) (fun k h => batonref18_May.calls k _ _ _ _ _ w h)
end
theorem tenMay_any (live ep : Int) (w : World) : Calls Try.prog 87 #[.agg #[.int .i64 live, .int .i64 ep]] w fun e w' => e = .returned (.bool (mayTen live ep)) ∧ Below w.heap.size w w' :=
  record_MayTenant.calls _ _ _ w (mayten_eq live ep)
theorem refTenMay_any (live ep : Int) (w : World) : Calls Try.prog 88 #[.agg #[.int .i64 live, .int .i64 ep]] w fun e w' => e = .returned (.bool (mayTen live ep)) ∧ Below w.heap.size w w' :=
  batonref18_MayTenant.calls _ _ _ w (refmayten_eq live ep)
theorem strOfNums_append (a b : List Int) : strOfNums a ++ strOfNums b = strOfNums (a ++ b) := by
  apply WideShapes.bytes_inj
  simp [strOfNums]
theorem strOfNums_bytes (s : ByteArray) : strOfNums (bytesOf s) = s := by
  apply WideShapes.bytes_inj
  have e : ((fun n : Int => UInt8.ofNat n.toNat) ∘ fun b : UInt8 => (b.toNat : Int)) = id := by funext b; simp
  simp [strOfNums, bytesOf, e]
set_option maxHeartbeats 8000000 in
set_option maxRecDepth 100000 in
theorem refText_any (s : ByteArray) (hs : s.size ≤ 140737488351232) (w : World) : Calls Try.prog 159 #[.string s] w fun e w' => e = .returned (.string (strOfNums (txt s))) ∧ Below w.heap.size w w' := by
  have hv := refVarint_any 9 s.size
  have HV := Lib.hid hv
  clear hv
  have hl := vint_len10 (n := s.size) (by omega)
  have he : strOfNums (txt s) = strOfNums (vint s.size) ++ s := by
    unfold txt
    rw [← strOfNums_append, strOfNums_bytes]
  rw [he]
  clear he
  have hsum : (strOfNums (vint s.size)).size + s.size ≤ 9223372036854775807 := by rw [strOfNums_size]; omega
  have hsum2 : (9223372036854775807 < (strOfNums (vint s.size)).size + s.size) = False := eq_false (by omega)
  generalize vint s.size = V at *
  go_enter Try.func159, Try.ntmps159
  go_wp2_with fail
  refine (HV.out _ (by omega) (by omega)).mono ?_
  rintro e w1 ⟨rfl, hb1⟩
  go_wp2
  go_ret
  exact ⟨rfl, hb1⟩
theorem txt_len {s : ByteArray} (hs : s.size ≤ 140737488351232) : (txt s).length ≤ s.size + 10 := by
  have := vint_len10 (n := s.size) (by omega)
  unfold txt
  rw [List.length_append, bytesOf_length]
  omega
theorem keep_cell {W x : World} {a : Addr} {v : Value} (hb : Below W.heap.size W x) (h : W.cell? a = some v) : x.cell? a = some v :=
  (hb.cell (p := a) (World.block_lt_of_cell? _ _ h)).trans h
theorem below_next {w W x : World} {m : Nat} (h : Below w.heap.size w W) (k : Below (W.drewN m).heap.size (W.drewN m) x) : Below w.heap.size w x := (pw_below_drewN h m).trans (k.mono h.size)
theorem below_next0 {w W x : World} (h : Below w.heap.size w W) (k : Below W.heap.size W x) : Below w.heap.size w x := h.trans (k.mono h.size)
theorem refVarint_at (a : Int) (h0 : 0 ≤ a) (h1 : a < 18446744073709551616) (W : World) : Calls Try.prog 160 #[.int .u64 a] W fun e w' => e = .returned (.string (strOfNums (vint a.toNat))) ∧ Below W.heap.size W w' := by
  obtain ⟨n, rfl⟩ := Int.eq_ofNat_of_zero_le h0
  exact refVarint_any 9 n W (by omega) (by omega)
def encRes (rep : ByteArray) (ep tm : Int) (gone : Bool) : Value := if mayRec rep ep tm then .tuple #[.string (strOfNums (recBytes rep ep tm gone)), .int .i64 0] else .tuple #[.string ⟨#[]⟩, .int .i64 4]
def encTenRes (live ep : Int) : Value := if mayTen live ep then .tuple #[.string (strOfNums (tenBytes live ep)), .int .i64 0] else .tuple #[.string ⟨#[]⟩, .int .i64 4]
theorem mayRec_bd {rep : ByteArray} {ep tm : Int} (h : mayRec rep ep tm = true) : 1 ≤ ep ∧ ep ≤ 1099511627776 ∧ 0 ≤ tm ∧ tm ≤ 1125899906842624 ∧ rep.size ≤ 24 ∧ isName rep.data.toList = true := by
  unfold mayRec at h
  rw [Bool.and_eq_true, decide_eq_true_eq] at h
  have := isName_len h.1
  rw [← Lib.size_eq] at this
  exact ⟨h.2.1, h.2.2.1, h.2.2.2.1, h.2.2.2.2, this.2, h.1⟩
theorem mayTen_bd {live ep : Int} (h : mayTen live ep = true) : 0 ≤ ep ∧ ep ≤ 1099511627776 ∧ 0 ≤ live ∧ live ≤ 1048576 ∧ live ≤ ep := of_decide_eq_true h
set_option maxHeartbeats 8000000 in
set_option maxRecDepth 100000 in
theorem refEncodeTen_any (live ep : Int) (w : World) : Calls Try.prog 84 #[.agg #[.int .i64 live, .int .i64 ep]] w fun e w' => e = .returned (encTenRes live ep) ∧ Below w.heap.size w w' := by
  unfold encTenRes
  cases hm : mayTen live ep
  · have hc := refTenMay_any live ep
    rw [hm] at hc
    have HC := Lib.hid hc
    clear hc hm
    simp only [Bool.false_eq_true, if_false]
    go_enter Try.func84, Try.ntmps84
    go_wp2_with fail
    refine (HC.out _).mono ?_
    rintro e w1 ⟨rfl, hb1⟩
    go_wp2
    go_ret2
    exact ⟨rfl, ((Below.refl _ _).alloc (Nat.le_refl _) _).trans (hb1.mono (by simp))⟩
  · have hbd := mayTen_bd hm
    have hc := refTenMay_any live ep
    rw [hm] at hc
    have HC := Lib.hid hc
    clear hc hm
    obtain ⟨n, rfl⟩ := Int.eq_ofNat_of_zero_le hbd.2.2.1
    obtain ⟨m, rfl⟩ := Int.eq_ofNat_of_zero_le hbd.1
    simp only [if_true]
    go_enter Try.func84, Try.ntmps84
    go_wp2_with fail
    refine (HC.out _).mono ?_
    rintro e w1 ⟨rfl, hb1⟩
    go_wp2_with fail
    have c0 : w1.cell? ⟨w.heap.size, 0, none⟩ = some (.int .i64 n) := keep_cell hb1 (by simp)
    have c1 : w1.cell? ⟨w.heap.size, 1, none⟩ = some (.int .i64 m) := keep_cell hb1 (by simp)
    have hl1 := vint_len10 (n := n) (by omega)
    have hl2 := vint_len10 (n := m) (by omega)
    have hsum : (strOfNums (vint n)).size + (strOfNums (vint m)).size ≤ 9223372036854775807 := by rw [strOfNums_size, strOfNums_size]; omega
    have hsum2 : (9223372036854775807 < (strOfNums (vint n)).size + (strOfNums (vint m)).size) = False := eq_false (by omega)
    have HE : Hid (strOfNums (tenBytes n m) = strOfNums (vint n) ++ strOfNums (vint m)) := Lib.hid (by rw [strOfNums_append]; rfl)
    have hbw : Below w.heap.size w w1 := below_next0 ((Below.refl _ _).alloc (Nat.le_refl _) _) hb1
    have hw1 : IntKind.u64.wrap (n : Int) = n := by rw [IntKind.wrap_u64]; omega
    have hw2 : IntKind.u64.wrap (m : Int) = m := by rw [IntKind.wrap_u64]; omega
    go_region_with (go_at_call 160; refine (refVarint_at _ (by omega) (by omega) _).mono ?_; rintro e x5 ⟨rfl, hb5⟩; (try have c0' := keep_cell hb5 c0); (try have c1' := keep_cell hb5 c1); (first | have hbw := below_next0 hbw hb5 | have hbw := below_next hbw hb5))
    all_goals go_wp2
    all_goals go_ret2
    all_goals exact ⟨by rw [HE.out]; rfl, by first | exact hbw | exact pw_below_drewN hbw _⟩
set_option maxHeartbeats 16000000 in
set_option maxRecDepth 100000 in
theorem refEncode_any (rep : ByteArray) (hs : rep.size ≤ 140737488351232) (ep tm : Int) (gone : Bool) (w : World) : Calls Try.prog 82 #[.agg #[.string rep, .int .i64 ep, .int .i64 tm, .bool gone]] w fun e w' => e = .returned (encRes rep ep tm gone) ∧ Below w.heap.size w w' := by
  unfold encRes
  cases hm : mayRec rep ep tm
  · have hc := refRecMay_any rep hs ep tm gone
    rw [hm] at hc
    have HC := Lib.hid hc
    clear hc hm
    simp only [Bool.false_eq_true, if_false]
    go_enter Try.func82, Try.ntmps82
    go_wp2_with fail
    refine (HC.out _).mono ?_
    rintro e w1 ⟨rfl, hb1⟩
    go_wp2
    go_ret2
    exact ⟨rfl, ((Below.refl _ _).alloc (Nat.le_refl _) _).trans (hb1.mono (by simp))⟩
  · have hbd := mayRec_bd hm
    have hc := refRecMay_any rep hs ep tm gone
    rw [hm] at hc
    have HC := Lib.hid hc
    clear hc hm
    obtain ⟨b1, b2, b3, b4, b5, b6⟩ := hbd
    obtain ⟨n, rfl⟩ := Int.eq_ofNat_of_zero_le (show 0 ≤ ep by omega)
    obtain ⟨m, rfl⟩ := Int.eq_ofNat_of_zero_le b3
    have hl1 := vint_len10 (n := n) (by omega)
    have hl2 := vint_len10 (n := m) (by omega)
    have hl0 := txt_len hs
    have HE : Hid (strOfNums (recBytes rep n m gone) = strOfNums (txt rep) ++ strOfNums (vint n) ++ strOfNums (vint m) ++ (if gone then ⟨#[1]⟩ else ⟨#[0]⟩)) := by
      refine Lib.hid ?_
      unfold recBytes
      rw [← strOfNums_append, ← strOfNums_append, ← strOfNums_append]
      cases gone <;> rfl
    have s1 : (strOfNums (txt rep)).size + (strOfNums (vint n)).size ≤ 9223372036854775807 := by rw [strOfNums_size, strOfNums_size]; omega
    have s1' : (9223372036854775807 < (strOfNums (txt rep)).size + (strOfNums (vint n)).size) = False := eq_false (by omega)
    have s2 : (strOfNums (txt rep) ++ strOfNums (vint n)).size + (strOfNums (vint m)).size ≤ 9223372036854775807 := by rw [ByteArray.size_append, strOfNums_size, strOfNums_size, strOfNums_size]; omega
    have s2' : (9223372036854775807 < (strOfNums (txt rep) ++ strOfNums (vint n)).size + (strOfNums (vint m)).size) = False := eq_false (by omega)
    have s3 : (strOfNums (txt rep) ++ strOfNums (vint n) ++ strOfNums (vint m)).size ≤ 1000000 := by rw [ByteArray.size_append, ByteArray.size_append, strOfNums_size, strOfNums_size, strOfNums_size]; omega
    have s4 : (strOfNums (txt rep)).size + (strOfNums (vint n)).size + (strOfNums (vint m)).size ≤ 1000000 := by rw [strOfNums_size, strOfNums_size, strOfNums_size]; omega
    have s4' : (9223372036854775807 < (strOfNums (txt rep)).size + (strOfNums (vint n)).size + (strOfNums (vint m)).size) = False := eq_false (by omega)
    simp only [if_true]
    go_enter Try.func82, Try.ntmps82
    go_wp2_with fail
    refine (HC.out _).mono ?_
    rintro e w1 ⟨rfl, hbb⟩
    go_wp2_with fail
    have c0 : w1.cell? ⟨w.heap.size, 0, none⟩ = some (.string rep) := keep_cell hbb (by simp)
    have c1 : w1.cell? ⟨w.heap.size, 1, none⟩ = some (.int .i64 n) := keep_cell hbb (by simp)
    have c2 : w1.cell? ⟨w.heap.size, 2, none⟩ = some (.int .i64 m) := keep_cell hbb (by simp)
    have c3 : w1.cell? ⟨w.heap.size, 3, none⟩ = some (.bool gone) := keep_cell hbb (by simp)
    have hbw : Below w.heap.size w w1 := below_next0 ((Below.refl _ _).alloc (Nat.le_refl _) _) hbb
    have hw1 : IntKind.u64.wrap (n : Int) = n := by rw [IntKind.wrap_u64]; omega
    have hw2 : IntKind.u64.wrap (m : Int) = m := by rw [IntKind.wrap_u64]; omega
    go_region_held3 (fun W => W.cell? ⟨w.heap.size, 0, none⟩ = some (.string rep) ∧ W.cell? ⟨w.heap.size, 1, none⟩ = some (.int .i64 n) ∧ W.cell? ⟨w.heap.size, 2, none⟩ = some (.int .i64 m) ∧ W.cell? ⟨w.heap.size, 3, none⟩ = some (.bool gone)) (go_keep) (first | (go_at_call 159; refine (refText_any _ hs _).mono ?_; rintro e x5 ⟨rfl, hb5⟩; have d0 := keep_cell (a := ⟨w.heap.size, 0, none⟩) (v := .string rep) hb5 (by simp [*]); have d1 := keep_cell (a := ⟨w.heap.size, 1, none⟩) (v := .int .i64 n) hb5 (by simp [*]); have d2 := keep_cell (a := ⟨w.heap.size, 2, none⟩) (v := .int .i64 m) hb5 (by simp [*]); have d3 := keep_cell (a := ⟨w.heap.size, 3, none⟩) (v := .bool gone) hb5 (by simp [*]); (first | have hbw := below_next0 hbw hb5 | have hbw := below_next hbw hb5)) | (go_at_call 160; refine (refVarint_at _ (by omega) (by omega) _).mono ?_; rintro e x5 ⟨rfl, hb5⟩; have d0 := keep_cell (a := ⟨w.heap.size, 0, none⟩) (v := .string rep) hb5 (by simp [*]); have d1 := keep_cell (a := ⟨w.heap.size, 1, none⟩) (v := .int .i64 n) hb5 (by simp [*]); have d2 := keep_cell (a := ⟨w.heap.size, 2, none⟩) (v := .int .i64 m) hb5 (by simp [*]); have d3 := keep_cell (a := ⟨w.heap.size, 3, none⟩) (v := .bool gone) hb5 (by simp [*]); (first | have hbw := below_next0 hbw hb5 | have hbw := below_next hbw hb5)))
    have s5 : (9223372036854775807 < (strOfNums (txt rep)).size + (strOfNums (vint n)).size + (strOfNums (vint m)).size + 1) = False := eq_false (by omega)
    have HV := Lib.hid hbw
    clear hbw
    cases gone
    · go_wp2
      go_ret2
      exact ⟨by rw [HE.out]; rfl, by first | exact HV.out | exact pw_below_drewN HV.out _⟩
    · go_wp2
      go_ret2
      exact ⟨by rw [HE.out]; rfl, by first | exact HV.out | exact pw_below_drewN HV.out _⟩
end Go.Proofs.Ytobanhbjkomieaa.RP
namespace Go.Proofs.Ytobanhbjkomieaa.RP
open Go.RowKit Go.Proofs.Ytobanhbjkomieaa.PAll Go.Proofs.Ytobanhbjkomieaa.KP Go.Proofs.Ytobanhbjkomieaa.BP Go.Proofs.YtobanhbjkomieaaW.PrintWords Go.Proofs.YtobanhbjkomieaaW.PrintLast Go.Proofs.YtobanhbjkomieaaW.PrintMore
set_option maxHeartbeats 8000000 in
set_option maxRecDepth 100000 in
theorem encPut_any (rep : ByteArray) (n m : Nat) (gone : Bool) (hs : rep.size ≤ 24) (hn : n < 18446744073709551616) (hm : m < 18446744073709551616) (hn0 : n ≤ 1125899906842624) (hm0 : m ≤ 1125899906842624) (w : World) :
    Calls Try.prog 156 #[.slice none 0 0, .agg #[.string rep, .int .i64 n, .int .i64 m, .bool gone]] w fun e w' => ∃ v', e = .returned v' ∧ w'.ownsRow w.heap.size 5 1 v' (recBytes rep n m gone).length (nums .u8 (recBytes rep n m gone)) ∧ Below w.heap.size w w' := by
  obtain ⟨i0, hi, hz0, hz1, hz2⟩ := info_parts info5'
  have hl1 := vint_len10 hn
  have hl2 := vint_len10 hm
  have hl0 := txt_len (s := rep) (by omega)
  have HE : Hid (∀ g : Int, g = (if gone then 1 else 0) → recBytes rep n m gone = txt rep ++ vint n ++ vint m ++ [g]) := by
    refine Lib.hid ?_
    rintro g rfl
    rfl
  have hw1 : IntKind.u64.wrap (n : Int) = n := by rw [IntKind.wrap_u64]; omega
  have hw2 : IntKind.u64.wrap (m : Int) = m := by rw [IntKind.wrap_u64]; omega
  go_enter Try.func156, Try.ntmps156
  go_wp2_with fail
  refine (putText_any (w.heap.size + 1) _ [] rep _ (World.ownsRow_nil _ _ _ _) (by simp) (by simp) (by omega)).mono ?_
  rintro e w1 ⟨v1, rfl, ho1, hb1⟩
  have c1 : w1.cell? ⟨w.heap.size, 1, none⟩ = some (.int .i64 n) := (hb1.cell (p := ⟨w.heap.size, 1, none⟩) (by simp)).trans (by simp)
  have c2 : w1.cell? ⟨w.heap.size, 2, none⟩ = some (.int .i64 m) := (hb1.cell (p := ⟨w.heap.size, 2, none⟩) (by simp)).trans (by simp)
  have c3 : w1.cell? ⟨w.heap.size, 3, none⟩ = some (.bool gone) := (hb1.cell (p := ⟨w.heap.size, 3, none⟩) (by simp)).trans (by simp)
  have z1 := hb1.size
  go_wp2_with fail
  refine (putUvarint_any (w.heap.size + 1) _ _ n _ ho1 (by simp at z1; omega) (by simp; omega) hn).mono ?_
  rintro e w2 ⟨v2, rfl, ho2, hb2⟩
  have d2 : w2.cell? ⟨w.heap.size, 2, none⟩ = some (.int .i64 m) := (hb2.cell (p := ⟨w.heap.size, 2, none⟩) (by simp)).trans c2
  have d3 : w2.cell? ⟨w.heap.size, 3, none⟩ = some (.bool gone) := (hb2.cell (p := ⟨w.heap.size, 3, none⟩) (by simp)).trans c3
  have z2 := hb2.size
  go_wp2_with fail
  refine (putUvarint_any (w.heap.size + 1) _ _ m _ ho2 (by simp at z1; omega) (by simp; omega) hm).mono ?_
  rintro e w3 ⟨v3, rfl, ho3, hb3⟩
  have e3 : w3.cell? ⟨w.heap.size, 3, none⟩ = some (.bool gone) := (hb3.cell (p := ⟨w.heap.size, 3, none⟩) (by simp)).trans d3
  have z3 := hb3.size
  have hB : Below (w.heap.size + 1) (w.alloc (.cells #[.string rep, .int .i64 n, .int .i64 m, .bool gone] 23)) w3 := (hb1.trans hb2).trans hb3
  have hB0 : Below w.heap.size w w3 := ((Below.refl _ _).alloc (Nat.le_refl _) _).trans (hB.mono (by omega))
  have HB0 := Lib.hid hB0
  clear hB hB0 c1 c2 c3 d2 d3 ho1 ho2 hb1 hb2 hb3
  rw [List.nil_append] at ho3
  simp at z1
  generalize hy : txt rep ++ vint n ++ vint m = ys at *
  have hyl : ys.length ≤ 1000 := by rw [← hy]; simp only [List.length_append]; omega
  clear hy
  cases gone
  · go_wp2_with (at_builtin; refine wpList_append_own _ rfl _ _ 178 rfl (w.heap.size + 1) 5 i0 (.int .u8 0) 1 1 Try.underlying178 hi hz0 hz1 hz2 rfl (by decide) _ _ _ rfl (ho3.alloc _) ⟨w3.heap.size, 0, none⟩ 1 1 [.int .u8 0] rfl rfl (cell_one_new _ _ _) (by simp [Value.oneCell']) (by unfold maxLen; omega) (by omega) (by simp; omega) ?_; intro v4 w4 ho4 hg4 _)
    go_ret
    refine ⟨v4, rfl, ?_, (HB0.out.alloc (by omega) _).grown hg4 (by simp; omega) (fun k hk => by have := own_base ho3 k hk; omega)⟩
    rw [HE.out 0 rfl]
    exact own_weaken (by simpa [nums] using ho4) (by omega)
  · go_wp2_with (at_builtin; refine wpList_append_own _ rfl _ _ 178 rfl (w.heap.size + 1) 5 i0 (.int .u8 0) 1 1 Try.underlying178 hi hz0 hz1 hz2 rfl (by decide) _ _ _ rfl (ho3.alloc _) ⟨w3.heap.size, 0, none⟩ 1 1 [.int .u8 1] rfl rfl (cell_one_new _ _ _) (by simp [Value.oneCell']) (by unfold maxLen; omega) (by omega) (by simp; omega) ?_; intro v4 w4 ho4 hg4 _)
    go_ret
    refine ⟨v4, rfl, ?_, (HB0.out.alloc (by omega) _).grown hg4 (by simp; omega) (fun k hk => by have := own_base ho3 k hk; omega)⟩
    rw [HE.out 1 rfl]
    exact own_weaken (by simpa [nums] using ho4) (by omega)
set_option maxHeartbeats 8000000 in
set_option maxRecDepth 100000 in
theorem encodeRec_any (rep : ByteArray) (hs : rep.size ≤ 140737488351232) (ep tm : Int) (gone : Bool) (w : World) :
    Calls Try.prog 155 #[.agg #[.string rep, .int .i64 ep, .int .i64 tm, .bool gone], .func (.func 85) #[] #[], .func (.func 156) #[] #[]] w fun e w' => e = .returned (encRes rep ep tm gone) ∧ Below w.heap.size w w' := by
  unfold encRes
  cases hm : mayRec rep ep tm
  · have hc := recMay_any rep hs ep tm gone
    rw [hm] at hc
    have HC := Lib.hid hc
    clear hc hm
    simp only [Bool.false_eq_true, if_false]
    go_enter Try.func155, Try.ntmps155
    go_wp2_with fail
    refine (HC.out _).mono ?_
    rintro e w1 ⟨rfl, hb1⟩
    go_wp2
    go_ret2
    exact ⟨rfl, below_next0 ((Below.refl _ _).alloc (Nat.le_refl _) _) hb1⟩
  · have hbd := mayRec_bd hm
    have hc := recMay_any rep hs ep tm gone
    rw [hm] at hc
    have HC := Lib.hid hc
    clear hc hm
    obtain ⟨b1, b2, b3, b4, b5, b6⟩ := hbd
    obtain ⟨n, rfl⟩ := Int.eq_ofNat_of_zero_le (show 0 ≤ ep by omega)
    obtain ⟨m, rfl⟩ := Int.eq_ofNat_of_zero_le b3
    have hp := fun W => encPut_any rep n m gone b5 (by omega) (by omega) (by omega) (by omega) W
    have HP := Lib.hid hp
    clear hp
    simp only [if_true]
    go_enter Try.func155, Try.ntmps155
    go_wp2_with fail
    refine (HC.out _).mono ?_
    rintro e w1 ⟨rfl, hb1⟩
    have c0 : w1.cell? ⟨w.heap.size, 0, none⟩ = some (.string rep) := keep_cell hb1 (by simp)
    have c1 : w1.cell? ⟨w.heap.size, 1, none⟩ = some (.int .i64 n) := keep_cell hb1 (by simp)
    have c2 : w1.cell? ⟨w.heap.size, 2, none⟩ = some (.int .i64 m) := keep_cell hb1 (by simp)
    have c3 : w1.cell? ⟨w.heap.size, 3, none⟩ = some (.bool gone) := keep_cell hb1 (by simp)
    go_wp2_with fail
    refine (HP.out _).mono ?_
    rintro e w2 ⟨v2, rfl, ho2, hb2⟩
    have hstr := own_string (P := Try.prog) (src := 178) (dst := 9) (e := 5) Try.underlying178 Try.underlying5 Try.underlying9 ho2
    clear c0 c1 c2 c3
    go_wp2
    go_ret2
    exact ⟨rfl, below_next0 (below_next0 ((Below.refl _ _).alloc (Nat.le_refl _) _) hb1) hb2⟩
set_option maxHeartbeats 8000000 in
set_option maxRecDepth 100000 in
theorem encode_any (rep : ByteArray) (hs : rep.size ≤ 140737488351232) (ep tm : Int) (gone : Bool) (w : World) :
    Calls Try.prog 81 #[.agg #[.string rep, .int .i64 ep, .int .i64 tm, .bool gone]] w fun e w' => e = .returned (encRes rep ep tm gone) ∧ Below w.heap.size w w' := by
  have hc := fun W => encodeRec_any rep hs ep tm gone W
  have HC := Lib.hid hc
  clear hc
  have hf : ∃ s : ByteArray, ∃ c : Int, encRes rep ep tm gone = .tuple #[.string s, .int .i64 c] := by
    unfold encRes
    split
    · exact ⟨_, _, rfl⟩
    · exact ⟨_, _, rfl⟩
  obtain ⟨s, c, hsc⟩ := hf
  rw [hsc] at HC ⊢
  clear hsc
  go_enter Try.func81, Try.ntmps81
  go_wp2_with fail
  refine (HC.out _).mono ?_
  rintro e w1 ⟨rfl, hb1⟩
  go_wp2
  go_ret2
  exact ⟨rfl, below_next0 ((Below.refl _ _).alloc (Nat.le_refl _) _) hb1⟩
set_option maxHeartbeats 8000000 in
set_option maxRecDepth 100000 in
theorem encPutTen_any (n m : Nat) (hn : n < 18446744073709551616) (hm : m < 18446744073709551616) (hn0 : n ≤ 1125899906842624) (hm0 : m ≤ 1125899906842624) (w : World) :
    Calls Try.prog 162 #[.slice none 0 0, .agg #[.int .i64 n, .int .i64 m]] w fun e w' => ∃ v', e = .returned v' ∧ w'.ownsRow w.heap.size 5 1 v' (tenBytes n m).length (nums .u8 (tenBytes n m)) ∧ Below w.heap.size w w' := by
  have hl1 := vint_len10 hn
  have hl2 := vint_len10 hm
  have HE : Hid (tenBytes n m = vint n ++ vint m) := Lib.hid rfl
  have hw1 : IntKind.u64.wrap (n : Int) = n := by rw [IntKind.wrap_u64]; omega
  have hw2 : IntKind.u64.wrap (m : Int) = m := by rw [IntKind.wrap_u64]; omega
  go_enter Try.func162, Try.ntmps162
  go_wp2_with fail
  have c0 : (w.alloc (.cells #[.int .i64 n, .int .i64 m] 25)).cell? ⟨w.heap.size, 0, none⟩ = some (.int .i64 n) := by simp
  have c1 : (w.alloc (.cells #[.int .i64 n, .int .i64 m] 25)).cell? ⟨w.heap.size, 1, none⟩ = some (.int .i64 m) := by simp
  go_region_held3 (fun W => W.cell? ⟨w.heap.size, 0, none⟩ = some (.int .i64 n) ∧ W.cell? ⟨w.heap.size, 1, none⟩ = some (.int .i64 m)) (go_keep) (first | (go_at_call 158; (with_reducible refine (putUvarint_any (w.heap.size + 1) (.slice none 0 0) [] n _ (World.ownsRow_nil _ _ _ _) (by simp) (by simp) hn).mono ?_); rintro e w1 ⟨v1, rfl, ho1, hb1⟩; have d0 : w1.cell? ⟨w.heap.size, 0, none⟩ = some (.int .i64 n) := (hb1.cell (p := ⟨w.heap.size, 0, none⟩) (by simp)).trans (by simp); have d1 : w1.cell? ⟨w.heap.size, 1, none⟩ = some (.int .i64 m) := (hb1.cell (p := ⟨w.heap.size, 1, none⟩) (by simp)).trans (by simp); have z1 := hb1.size) | (go_at_call 158; (with_reducible refine (putUvarint_any (w.heap.size + 1) v1 _ m _ (by exact ho1) (by simp at z1 ⊢; omega) (by simp; omega) hm).mono ?_); rintro e w2 ⟨v2, rfl, ho2, hb2⟩; have d0' : w2.cell? ⟨w.heap.size, 0, none⟩ = some (.int .i64 n) := (hb2.cell (p := ⟨w.heap.size, 0, none⟩) (by simp)).trans (by simp [*]); have d1' : w2.cell? ⟨w.heap.size, 1, none⟩ = some (.int .i64 m) := (hb2.cell (p := ⟨w.heap.size, 1, none⟩) (by simp)).trans (by simp [*])))
  go_wp2
  go_ret
  refine ⟨_, rfl, ?_, ?_⟩
  · rw [HE.out]
    exact own_weaken (by simpa using ho2) (by omega)
  · have h1 : Below (w.heap.size + 1) _ w2 := (pw_below_drewN (Below.refl _ (w.alloc (.cells #[.int .i64 n, .int .i64 m] 25))) _).trans (hb1.trans hb2)
    exact ((Below.refl _ _).alloc (Nat.le_refl _) _).trans (h1.mono (by omega))
set_option maxHeartbeats 8000000 in
set_option maxRecDepth 100000 in
theorem encodeTenG_any (live ep : Int) (w : World) :
    Calls Try.prog 161 #[.agg #[.int .i64 live, .int .i64 ep], .func (.func 87) #[] #[], .func (.func 162) #[] #[]] w fun e w' => e = .returned (encTenRes live ep) ∧ Below w.heap.size w w' := by
  unfold encTenRes
  cases hm : mayTen live ep
  · have hc := tenMay_any live ep
    rw [hm] at hc
    have HC := Lib.hid hc
    clear hc hm
    simp only [Bool.false_eq_true, if_false]
    go_enter Try.func161, Try.ntmps161
    go_wp2_with fail
    refine (HC.out _).mono ?_
    rintro e w1 ⟨rfl, hb1⟩
    go_wp2
    go_ret2
    exact ⟨rfl, below_next0 ((Below.refl _ _).alloc (Nat.le_refl _) _) hb1⟩
  · have hbd := mayTen_bd hm
    have hc := tenMay_any live ep
    rw [hm] at hc
    have HC := Lib.hid hc
    clear hc hm
    obtain ⟨b1, b2, b3, b4, b5⟩ := hbd
    obtain ⟨n, rfl⟩ := Int.eq_ofNat_of_zero_le b3
    obtain ⟨m, rfl⟩ := Int.eq_ofNat_of_zero_le b1
    have hp := fun W => encPutTen_any n m (by omega) (by omega) (by omega) (by omega) W
    have HP := Lib.hid hp
    clear hp
    simp only [if_true]
    go_enter Try.func161, Try.ntmps161
    go_wp2_with fail
    refine (HC.out _).mono ?_
    rintro e w1 ⟨rfl, hb1⟩
    have c0 : w1.cell? ⟨w.heap.size, 0, none⟩ = some (.int .i64 n) := keep_cell hb1 (by simp)
    have c1 : w1.cell? ⟨w.heap.size, 1, none⟩ = some (.int .i64 m) := keep_cell hb1 (by simp)
    go_wp2_with fail
    refine (HP.out _).mono ?_
    rintro e w2 ⟨v2, rfl, ho2, hb2⟩
    have hstr := own_string (P := Try.prog) (src := 178) (dst := 9) (e := 5) Try.underlying178 Try.underlying5 Try.underlying9 ho2
    clear c0 c1
    go_wp2
    go_ret2
    exact ⟨rfl, below_next0 (below_next0 ((Below.refl _ _).alloc (Nat.le_refl _) _) hb1) hb2⟩
set_option maxHeartbeats 8000000 in
set_option maxRecDepth 100000 in
theorem encodeTen_any (live ep : Int) (w : World) :
    Calls Try.prog 83 #[.agg #[.int .i64 live, .int .i64 ep]] w fun e w' => e = .returned (encTenRes live ep) ∧ Below w.heap.size w w' := by
  have hc := fun W => encodeTenG_any live ep W
  have HC := Lib.hid hc
  clear hc
  have hf : ∃ s : ByteArray, ∃ c : Int, encTenRes live ep = .tuple #[.string s, .int .i64 c] := by
    unfold encTenRes
    split
    · exact ⟨_, _, rfl⟩
    · exact ⟨_, _, rfl⟩
  obtain ⟨s, c, hsc⟩ := hf
  rw [hsc] at HC ⊢
  clear hsc
  go_enter Try.func83, Try.ntmps83
  go_wp2_with fail
  refine (HC.out _).mono ?_
  rintro e w1 ⟨rfl, hb1⟩
  go_wp2
  go_ret2
  exact ⟨rfl, below_next0 ((Below.refl _ _).alloc (Nat.le_refl _) _) hb1⟩
end Go.Proofs.Ytobanhbjkomieaa.RP
namespace Go.Proofs.Ytobanhbjkomieaa.RP
open Go.RowKit Go.Proofs.Ytobanhbjkomieaa.PAll Go.Proofs.Ytobanhbjkomieaa.KP Go.Proofs.Ytobanhbjkomieaa.BP Go.Proofs.YtobanhbjkomieaaW.PrintWords Go.Proofs.YtobanhbjkomieaaW.PrintLast Go.Proofs.YtobanhbjkomieaaW.PrintMore
open Go.Proofs.Ytobanhbjkomieaa.PRd (rv uv uv_bad uv_ok next_lt pow_le8 next_lt9)
def c3 (r : Nat × Nat × Int) : Int × Int × Int := (r.1, r.2.1, r.2.2)
end Go.Proofs.Ytobanhbjkomieaa.RP
namespace Go.Proofs.Ytobanhbjkomieaa.RP
open Go.RowKit Go.Proofs.Ytobanhbjkomieaa.PAll Go.Proofs.Ytobanhbjkomieaa.KP Go.Proofs.Ytobanhbjkomieaa.BP Go.Proofs.YtobanhbjkomieaaW.PrintWords Go.Proofs.YtobanhbjkomieaaW.PrintLast Go.Proofs.YtobanhbjkomieaaW.PrintMore
open Go.Proofs.Ytobanhbjkomieaa.PRd (rv uv uv_bad uv_ok next_lt pow_le8 next_lt9)
set_option linter.unusedSimpArgs false
set_option linter.unusedVariables false
def nb (l : List Int) : List UInt8 := l.map fun n => UInt8.ofNat n.toNat
def vb (n : Nat) : List UInt8 := nb (vint n)
abbrev Rd (α : Type) := List UInt8 → Nat → Int → α × Nat × Int
structure Codec {α : Type} (P : Rd α) (x : α) (bs : List UInt8) : Prop where
  full : ∀ pre rest, P (pre ++ (bs ++ rest)) pre.length 0 = (x, pre.length + bs.length, 0)
  cut : ∀ pre j, j < bs.length → (P (pre ++ bs.take j) pre.length 0).2.2 = 8
def Sticky {α : Type} (P : Rd α) : Prop := ∀ s p e, e ≠ 0 → (P s p e).2.2 = e
def Canon {α : Type} (P : Rd α) (enc : α → List UInt8) (ok : α → Prop) : Prop := ∀ s p e x q, P s p e = (x, q, 0) → e = 0 ∧ p + (enc x).length ≤ q ∧ ok x
def seqR {α β : Type} (P : Rd α) (Q : Rd β) : Rd (α × β) := fun s p e =>
  (((P s p e).1, (Q s (P s p e).2.1 (P s p e).2.2).1), (Q s (P s p e).2.1 (P s p e).2.2).2.1, (Q s (P s p e).2.1 (P s p e).2.2).2.2)
theorem Sticky.seq {α β : Type} {P : Rd α} {Q : Rd β} (h : Sticky P) (k : Sticky Q) : Sticky (seqR P Q) := fun s p e he => by
  have h1 := h s p e he
  show (Q s (P s p e).2.1 (P s p e).2.2).2.2 = e
  rw [h1]
  exact k s _ e he
theorem Codec.seq {α β : Type} {P : Rd α} {Q : Rd β} {x : α} {y : β} {bs cs : List UInt8} (h : Codec P x bs) (k : Codec Q y cs) (hk : Sticky Q) : Codec (seqR P Q) (x, y) (bs ++ cs) where
  full pre rest := by
    have h1 := h.full pre (cs ++ rest)
    have h2 := k.full (pre ++ bs) rest
    simp only [seqR, List.append_assoc] at *
    rw [h1]
    simp only
    rw [List.length_append] at h2
    rw [h2]
    simp [Nat.add_assoc]
  cut pre j hj := by
    show (Q _ (P _ _ 0).2.1 (P _ _ 0).2.2).2.2 = 8
    by_cases c : j < bs.length
    · have e : (bs ++ cs).take j = bs.take j := by rw [List.take_append_of_le_length (by omega)]
      rw [e, h.cut pre j c]
      exact hk _ _ 8 (by decide)
    · obtain ⟨m, rfl⟩ : ∃ m, j = bs.length + m := ⟨j - bs.length, by omega⟩
      have e : (bs ++ cs).take (bs.length + m) = bs ++ cs.take m := by
        rw [List.take_append, Nat.add_sub_cancel_left, List.take_of_length_le (by omega)]
      have h1 := h.full pre (cs.take m)
      have h2 := k.cut (pre ++ bs) m (by simp only [List.length_append] at hj; omega)
      rw [e, h1]
      simp only
      rw [List.append_assoc, List.length_append] at h2
      exact h2
theorem Canon.seq {α β : Type} {P : Rd α} {Q : Rd β} {en : α → List UInt8} {em : β → List UInt8} {ok : α → Prop} {ol : β → Prop} (h : Canon P en ok) (k : Canon Q em ol) :
    Canon (seqR P Q) (fun x => en x.1 ++ em x.2) (fun x => ok x.1 ∧ ol x.2) := by
  rintro s p e ⟨x, y⟩ q hr
  simp only [seqR, Prod.mk.injEq] at hr
  obtain ⟨⟨hx, hy⟩, hq, he⟩ := hr
  have h2 := k s _ _ y q (Prod.ext hy (Prod.ext hq he))
  have h1 := h s p e x _ (Prod.ext hx (Prod.ext rfl h2.1))
  refine ⟨h1.1, ?_, h1.2.2, h2.2.2⟩
  have a1 : p + (en x).length ≤ (P s p e).2.1 := h1.2.1
  have a2 : (P s p e).2.1 + (em y).length ≤ q := h2.2.1
  simp only [List.length_append]
  generalize (P s p e).2.1 = n at *
  omega
def tb (t : List UInt8) : List UInt8 := vb t.length ++ t
structure Rc where
  rep : List UInt8
  ep : Int
  tm : Int
  gone : Bool
deriving DecidableEq
structure Tn where
  live : Int
  ep : Int
deriving DecidableEq
def Rc.may (r : Rc) : Bool := mayRec ⟨r.rep.toArray⟩ r.ep r.tm
def Tn.may (t : Tn) : Bool := mayTen t.live t.ep
def Rc.bytes (r : Rc) : List UInt8 := tb r.rep ++ (vb r.ep.toNat ++ (vb r.tm.toNat ++ [if r.gone then 1 else 0]))
def Tn.bytes (t : Tn) : List UInt8 := vb t.live.toNat ++ vb t.ep.toNat
end Go.Proofs.Ytobanhbjkomieaa.RP
