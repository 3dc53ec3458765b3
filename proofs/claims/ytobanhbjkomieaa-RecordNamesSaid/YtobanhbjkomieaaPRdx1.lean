-- Written by wip/tools/print2.py out of the translation and of wip/inj
import Derived.Test.YtobanhbjkomieaaPRdx0
namespace Go.Proofs.Ytobanhbjkomieaa.PRd
open Go.RowKit Go.Proofs.YtobanhbjkomieaaW.PrintWords Go.Proofs.YtobanhbjkomieaaW.PrintLast Go.Proofs.YtobanhbjkomieaaW.PrintMore
attribute [local go_sem] max2_int min2_int max_two min_two max_three min_three max_four min_four   -- for this text's walks alone
set_option linter.unusedVariables false
set_option linter.unusedSimpArgs false

/-- A state of type 225 at block g of W; what its slices lead to came in by w0. -/
def IsS225 (w0 W : World) (g : Nat) (f0 : ByteArray) (f1 : Int) (f2 : Int) : Prop := W.heap[g]? = some (.cells #[.string f0, .int .i64 f1, .int .i64 f2] 225 (0, 0)) ∧ w0.heap.size ≤ g
theorem IsS225.grown {w0 W : World} {g : Nat} {f0 : ByteArray} {f1 : Int} {f2 : Int} {W1 : World} {row : Option Nat} (h : IsS225 w0 W g f0 f1 f2) (hw : W.grownBy W1 row) (hne : some g ≠ row) : IsS225 w0 W1 g f0 f1 f2 := by
  obtain ⟨hb, hg⟩ := h
  exact ⟨blk_grown hb hw hne, hg⟩
theorem IsS225.own_neN {w0 W : World} {g : Nat} {f0 : ByteArray} {f1 : Int} {f2 : Int} {α : Type} {d : Kd α} {e : Nat} {base : Nat} {ok : Nat → Prop} {v : Value} {xs : List α} (h : IsS225 w0 W g f0 f1 f2) (ho : Kd.N d e W base ok v xs) (ht : e ≠ 225) : some g ≠ v.ownBlock := by
  obtain ⟨hb, hg⟩ := h
  exact Kd.N_ne ho hb ht
theorem IsS225.fresh {w0 W : World} {g : Nat} {f0 : ByteArray} {f1 : Int} {f2 : Int} (h : IsS225 w0 W g f0 f1 f2) : ∀ k, W.heap.size ≤ k → k ≠ g := by
  obtain ⟨hb, hg⟩ := h
  exact Kd.freshB hb
theorem IsS225.kept {w0 W : World} {g : Nat} {f0 : ByteArray} {f1 : Int} {f2 : Int} {W1 : World} {S : Nat → Prop} (h : IsS225 w0 W g f0 f1 f2) (hk : Kept W W1 S) (hne : ¬ S g) : IsS225 w0 W1 g f0 f1 f2 := by
  obtain ⟨hb, hg⟩ := h
  exact ⟨blk_kept hb hk hne, hg⟩
theorem IsS225.below {w0 W : World} {g : Nat} {f0 : ByteArray} {f1 : Int} {f2 : Int} {W1 : World} (h : IsS225 w0 W g f0 f1 f2) (hw : Below W.heap.size W W1) : IsS225 w0 W1 g f0 f1 f2 := h.grown (grown_of_below hw none) (by simp)
theorem IsS225.alloc {w0 W : World} {g : Nat} {f0 : ByteArray} {f1 : Int} {f2 : Int} (h : IsS225 w0 W g f0 f1 f2) (o : Obj) : IsS225 w0 (W.alloc o) g f0 f1 f2 := h.below (below_alloc (Below.refl _ _) o)
theorem IsS225.drewN {w0 W : World} {g : Nat} {f0 : ByteArray} {f1 : Int} {f2 : Int} (h : IsS225 w0 W g f0 f1 f2) (m : Nat) : IsS225 w0 (W.drewN m) g f0 f1 f2 := h
theorem IsS225.drew {w0 W : World} {g : Nat} {f0 : ByteArray} {f1 : Int} {f2 : Int} (h : IsS225 w0 W g f0 f1 f2) : IsS225 w0 W.drew g f0 f1 f2 := h
theorem IsS225.at_ {w0 W : World} {g : Nat} {f0 : ByteArray} {f1 : Int} {f2 : Int} {w' : World} {m : Nat} (hq : W.drewN m = w') (h : IsS225 w0 W g f0 f1 f2) : IsS225 w0 w' g f0 f1 f2 := by subst hq; exact IsS225.drewN h m
theorem IsS225.apart {w0 W : World} {g : Nat} {f0 : ByteArray} {f1 : Int} {f2 : Int} {α : Type} {d : Kd α} {e : Nat} {base : Nat} {ok : Nat → Prop} {v : Value} {xs : List α} (h : IsS225 w0 W g f0 f1 f2) (ho : d.R e W base ok v xs) (ht : ∀ q, q ∈ e :: d.E → q ≠ 225) : d.R e W base (fun k => ok k ∧ k ≠ g) v xs := by
  obtain ⟨hb, hg⟩ := h
  exact Kd.R_types ho hb ht
theorem IsS225.own_ne {w0 W : World} {g : Nat} {f0 : ByteArray} {f1 : Int} {f2 : Int} {α : Type} {d : Kd α} {e : Nat} {base : Nat} {ok : Nat → Prop} {v : Value} {xs : List α} (h : IsS225 w0 W g f0 f1 f2) (ho : d.R e W base ok v xs) (ht : e ≠ 225) : some g ≠ v.ownBlock := by
  obtain ⟨hb, hg⟩ := h
  exact Kd.R_ne ho hb ht
theorem IsS225.apartQ {w0 W : World} {g : Nat} {f0 : ByteArray} {f1 : Int} {f2 : Int} {α : Type} {d : Kd α} {e : Nat} {base : Nat} {ok : Nat → Prop} {v : Value} {xs : List α} (h : IsS225 w0 W g f0 f1 f2) (ho : d.Q e W base ok v xs) (ht : ∀ q, q ∈ e :: d.E → q ≠ 225) : d.Q e W base (fun k => ok k ∧ k ≠ g) v xs := by
  obtain ⟨hb, hg⟩ := h
  exact Kd.Q_types ho hb ht
theorem IsS225.own_neQ {w0 W : World} {g : Nat} {f0 : ByteArray} {f1 : Int} {f2 : Int} {α : Type} {d : Kd α} {e : Nat} {base : Nat} {ok : Nat → Prop} {v : Value} {xs : List α} (h : IsS225 w0 W g f0 f1 f2) (ho : d.Q e W base ok v xs) (ht : e ≠ 225) : some g ≠ v.ownBlock := by
  obtain ⟨hb, hg⟩ := h
  exact Kd.Q_ne ho hb ht
theorem IsS225.apartS {w0 W : World} {g : Nat} {f0 : ByteArray} {f1 : Int} {f2 : Int} {α : Type} {d : Kd α} {e : Nat} {base : Nat} {ok : Nat → Prop} {v : Value} {xs : List α} (h : IsS225 w0 W g f0 f1 f2) (ho : d.S e W base ok v xs) (ht : ∀ q, q ∈ e :: d.E → q ≠ 225) : d.S e W base (fun k => ok k ∧ k ≠ g) v xs := by
  obtain ⟨hb, hg⟩ := h
  exact Kd.S_types ho hb ht
theorem IsS225.own_neS {w0 W : World} {g : Nat} {f0 : ByteArray} {f1 : Int} {f2 : Int} {α : Type} {d : Kd α} {e : Nat} {base : Nat} {ok : Nat → Prop} {v : Value} {xs : List α} (h : IsS225 w0 W g f0 f1 f2) (ho : d.S e W base ok v xs) (ht : e ≠ 225) : some g ≠ v.ownBlock := by
  obtain ⟨hb, hg⟩ := h
  exact Kd.S_ne ho hb ht
theorem IsS225.lt {w0 W : World} {g : Nat} {f0 : ByteArray} {f1 : Int} {f2 : Int} (h : IsS225 w0 W g f0 f1 f2) : g < W.heap.size := by
  obtain ⟨hb, hg⟩ := h
  exact blk_lt hb
theorem IsS225.ge {w0 W : World} {g : Nat} {f0 : ByteArray} {f1 : Int} {f2 : Int} (h : IsS225 w0 W g f0 f1 f2) : w0.heap.size ≤ g := by
  obtain ⟨hb, hg⟩ := h
  exact hg
theorem IsS225.ne_blk {w0 W : World} {g : Nat} {f0 : ByteArray} {f1 : Int} {f2 : Int} {a : Nat} {cs : Array Value} {t : TypeId} {fr : Nat × Nat} (h : IsS225 w0 W g f0 f1 f2) (hb2 : W.heap[a]? = some (.cells cs t fr)) (ht : t ≠ 225) : g ≠ a := by
  obtain ⟨hb, hg⟩ := h
  rintro rfl
  rw [hb] at hb2
  injection hb2 with hb2
  injection hb2 with _ ht2
  exact ht ht2.symm
theorem IsS225.far {w0 W : World} {g : Nat} {f0 : ByteArray} {f1 : Int} {f2 : Int} {p : Addr} (h : IsS225 w0 W g f0 f1 f2) (hne : g ≠ p.block) (u : Value) : IsS225 w0 (W.setCell p u) g f0 f1 f2 := by
  obtain ⟨hb, hg⟩ := h
  exact ⟨blk_far hb hne u, hg⟩
theorem cellS225_0 {W : World} {g : Nat} {f0 : ByteArray} {f1 : Int} {f2 : Int} (h : W.heap[g]? = some (.cells #[.string f0, .int .i64 f1, .int .i64 f2] 225 (0, 0))) : W.cell? ⟨g, 0, none⟩ = some (.string f0) := (blk_cell h 0).trans rfl
theorem IsS225.set_0 {w0 W : World} {g : Nat} {f0 : ByteArray} {f1 : Int} {f2 : Int} (h : IsS225 w0 W g f0 f1 f2) (x : ByteArray) : IsS225 w0 (W.setCell ⟨g, 0, none⟩ (.string x)) g x f1 f2 := by
  obtain ⟨hb, hg⟩ := h
  exact ⟨by simpa using blk_set hb 0 (.string x), hg⟩
theorem cellS225_1 {W : World} {g : Nat} {f0 : ByteArray} {f1 : Int} {f2 : Int} (h : W.heap[g]? = some (.cells #[.string f0, .int .i64 f1, .int .i64 f2] 225 (0, 0))) : W.cell? ⟨g, 1, none⟩ = some (.int .i64 f1) := (blk_cell h 1).trans rfl
theorem IsS225.set_1 {w0 W : World} {g : Nat} {f0 : ByteArray} {f1 : Int} {f2 : Int} (h : IsS225 w0 W g f0 f1 f2) (x : Int) : IsS225 w0 (W.setCell ⟨g, 1, none⟩ (.int .i64 x)) g f0 x f2 := by
  obtain ⟨hb, hg⟩ := h
  exact ⟨by simpa using blk_set hb 1 (.int .i64 x), hg⟩
theorem cellS225_2 {W : World} {g : Nat} {f0 : ByteArray} {f1 : Int} {f2 : Int} (h : W.heap[g]? = some (.cells #[.string f0, .int .i64 f1, .int .i64 f2] 225 (0, 0))) : W.cell? ⟨g, 2, none⟩ = some (.int .i64 f2) := (blk_cell h 2).trans rfl
theorem IsS225.set_2 {w0 W : World} {g : Nat} {f0 : ByteArray} {f1 : Int} {f2 : Int} (h : IsS225 w0 W g f0 f1 f2) (x : Int) : IsS225 w0 (W.setCell ⟨g, 2, none⟩ (.int .i64 x)) g f0 f1 x := by
  obtain ⟨hb, hg⟩ := h
  exact ⟨by simpa using blk_set hb 2 (.int .i64 x), hg⟩
theorem IsS225.new (w0 W : World) (f0 : ByteArray) (f1 : Int) (f2 : Int) (hB : Below w0.heap.size w0 W) : IsS225 w0 (W.alloc (.cells #[.string f0, .int .i64 f1, .int .i64 f2] 225)) W.heap.size f0 f1 f2 := ⟨by simpa using heap_alloc_new W _, hB.size⟩

/-! ### bits_Reader_good: function 182 -/
def bits_Reader_good.f (s0_0 : ByteArray) (s0_1 : Int) (s0_2 : Int) : Option (Bool × ByteArray × Int × Int) := some (decide (s0_2 = 0), s0_0, s0_1, s0_2)
set_option maxHeartbeats 8000000 in
set_option maxRecDepth 100000 in
theorem bits_Reader_good.calls (g : Nat) (s0_0 : ByteArray) (s0_1 : Int) (s0_2 : Int) (r1 : Bool) (r2 : ByteArray) (r3 : Int) (r4 : Int) (w0 w : World) (hI : IsS225 w0 w g s0_0 s0_1 s0_2) (hB : Below w0.heap.size w0 w) (h : bits_Reader_good.f s0_0 s0_1 s0_2 = some (r1, r2, r3, r4)) :
    Calls Try.prog 182 #[.pointer (some ⟨g, 0, none⟩)] w fun e w' => e = .returned (.bool r1) ∧ IsS225 w0 w' g r2 r3 r4 ∧ Below w0.heap.size w0 w' ∧ KeepBut w w' g none := by
  have HI0 := Aside0.mk hI
  have HK := Aside0.mk (KeepBut.refl w g none)
  have HB := Aside0.mk hB
  clear hI hB
  unfold bits_Reader_good.f at h
  simp only [Option.some.injEq, Prod.mk.injEq] at h
  obtain ⟨rfl, rfl, rfl, rfl⟩ := h
  obtain ⟨HG, hg⟩ := HI0.out
  have hc0 := cellS225_0 HG
  have hc1 := cellS225_1 HG
  have hc2 := cellS225_2 HG
  clear HG hg
  by_cases c : s0_2 = 0
  · subst c
    go_enter Try.func182, Try.ntmps182
    go_wp2
    first | go_end0 | go_ret
    exact ⟨by first | rfl | (simp; done) | (simp [*]; done), by repeat (first | (with_reducible first | exact HI0.out | apply IsS225.alloc | apply IsS225.drewN | apply IsS225.drew) | exact HI0.out), by repeat (first | (with_reducible first | exact HB.out | apply below_alloc | apply pw_below_drewN | apply below_drew1) | exact HB.out), by repeat (first | (with_reducible first | exact HK.out | apply keep_drewN | apply keep_drew | apply keep_alloc) | exact HK.out)⟩
  · have hb : (s0_2 == 0) = false := beq_eq_false_iff_ne.2 c
    go_enter Try.func182, Try.ntmps182
    go_wp2
    first | go_end0 | go_ret
    exact ⟨by first | rfl | (simp; done) | (simp [*]; done), by repeat (first | (with_reducible first | exact HI0.out | apply IsS225.alloc | apply IsS225.drewN | apply IsS225.drew) | exact HI0.out), by repeat (first | (with_reducible first | exact HB.out | apply below_alloc | apply pw_below_drewN | apply below_drew1) | exact HB.out), by repeat (first | (with_reducible first | exact HK.out | apply keep_drewN | apply keep_drew | apply keep_alloc) | exact HK.out)⟩


/-! ### bits_Uvarint: function 184 -/
/-! ### varints, read -/
/-- The number, how many bytes it has; what is wrong. -/
def rv (i acc : Nat) : List UInt8 → Nat × Nat × Int
  | [] => (0, 0, 8)
  | b :: l => if i = 9 ∧ 1 < b.toNat then (0, 0, 4) else if b.toNat < 128 then (acc + 128 ^ i * b.toNat, i + 1, 0) else rv (i + 1) (acc + 128 ^ i * (b.toNat % 128)) l
/-- The varint at a place. -/
def uv (s : List UInt8) (at_ : Nat) : Nat × Nat × Int := let r := rv 0 0 (s.drop at_); if r.2.2 = 0 then (r.1, at_ + r.2.1, 0) else (0, 0, r.2.2)
theorem uv_bad {s : List UInt8} {p i acc : Nat} {e : Int} {l : List UInt8} (h : rv i acc l = rv 0 0 (s.drop p)) (h1 : rv i acc l = (0, 0, e)) (he : e ≠ 0) : uv s p = (0, 0, e) := by
  simp only [uv, ← h, h1, if_neg he]
theorem uv_ok {s : List UInt8} {p i acc n k : Nat} {l : List UInt8} (h : rv i acc l = rv 0 0 (s.drop p)) (h1 : rv i acc l = (n, k, 0)) : uv s p = (n, p + k, 0) := by
  simp only [uv, ← h, h1, if_true]
theorem or_wrap {i acc b : Nat} (ha : acc < 128 ^ i) (hb : acc + 128 ^ i * b < 18446744073709551616) : bits .or .u64 (acc : Int) (IntKind.u64.wrap ((b : Int) * 2 ^ (7 * i))) = ((acc + 128 ^ i * b : Nat) : Int) := by
  have e : (2 : Int) ^ (7 * i) = ((128 ^ i : Nat) : Int) := by
    rw [show 128 = 2 ^ 7 from rfl, ← Nat.pow_mul]; simp
  rw [e, ← Int.natCast_mul, Nat.mul_comm b, IntKind.wrap_u64]
  rw [show (((128 ^ i * b : Nat) : Int) % 18446744073709551616) = ((128 ^ i * b : Nat) : Int) by omega]
  rw [u64_or_nat _ _ (by omega) (by omega), Nat.or_comm, nat_join (7 * i) _ _ ?_ ?_, Nat.add_comm]
  · rw [show 128 = 2 ^ 7 from rfl, ← Nat.pow_mul]; exact Nat.mul_mod_right _ _
  · rw [Nat.pow_mul]; exact ha
theorem or_nine {acc b : Nat} (ha : acc < 128 ^ 9) (hb : b ≤ 1) : bits .or .u64 (acc : Int) ((b : Int) * 9223372036854775808) = ((acc + 128 ^ 9 * b : Nat) : Int) := by
  have h : 128 ^ 9 * b ≤ 9223372036854775808 := by omega
  have := or_wrap (i := 9) ha (b := b) (by omega)
  rw [← this, IntKind.wrap_u64]; congr 1; omega
theorem pow_le8 {i : Nat} (h : i < 9) : 128 ^ i ≤ 72057594037927936 := Nat.pow_le_pow_right (n := 128) (j := 8) (by omega) (by omega)
theorem next_lt {i acc b : Nat} (ha : acc < 128 ^ i) (hb : b < 128) : acc + 128 ^ i * b < 128 ^ (i + 1) := by
  rw [Nat.pow_succ]
  have : 128 ^ i * b ≤ 128 ^ i * 127 := Nat.mul_le_mul_left _ (by omega)
  omega
theorem next_lt9 {i acc b : Nat} (hi : i < 9) (ha : acc < 128 ^ i) (hb : b < 128) : acc + 128 ^ i * b < 18446744073709551616 := by
  have h := next_lt ha hb
  have : 128 ^ (i + 1) ≤ 9223372036854775808 := Nat.pow_le_pow_right (n := 128) (j := 9) (by omega) (by omega)
  omega
theorem clear_nat {b : Nat} (h : b < 256) : bits .andNot .u64 (b : Int) 128 = ((b % 128 : Nat) : Int) := by
  have := u64_andNot_nat b 128 (by omega) (by omega)
  rw [show ((128 : Nat) : Int) = 128 from rfl] at this
  rw [this]
  have : ∀ b : Fin 256, b.val &&& (18446744073709551615 - 128) = b.val % 128 := by decide +kernel
  exact congrArg _ (this ⟨b, h⟩)
set_option maxHeartbeats 8000000 in
set_option maxRecDepth 100000 in
theorem uvarint_any (s : ByteArray) (p : Nat) (hp : p ≤ s.size) (hs : s.size ≤ 140737488351232) (w : World) :
    Calls Try.prog 184 #[.string s, .int .i64 p] w fun e w' => e = .returned (.tuple #[.int .u64 (uv s.data.toList p).1, .int .i64 (uv s.data.toList p).2.1, .int .i64 (uv s.data.toList p).2.2]) ∧ Drawn0 w w' := by
  have g1 : (s.size < p) = False := eq_false (by omega)
  have g2 : ((p : Int) < 0) = False := eq_false (by omega)
  go_enter Try.func184, Try.ntmps184
  go_wp2_with fail
  go_step3
  go_wp2_with fail
  go_step3
  go_wp2_with fail
  go_loopw [4, 7] (fun a b wr => ∃ (i acc m : Nat), b = .int .i64 i ∧ a = .int .u64 acc ∧ i ≤ 9 ∧ acc < 128 ^ i ∧ p + i ≤ s.size ∧ Hid (rv i acc (s.data.toList.drop (p + i)) = rv 0 0 (s.data.toList.drop p)) ∧ wr = w.drewN m) (fun _ b _ => s.size - (intOf b).toNat)
  case atStart => exact ⟨0, 0, 0, rfl, rfl, by omega, by simp, by omega, Lib.hid rfl, rfl⟩
  case round =>
    obtain ⟨i, acc, m, rfl, rfl, hi, hacc, hpi, hrv, rfl⟩ := hrel
    have hsz : s.data.toList.length = s.size := by simp
    by_cases hend : p + i = s.size
    · have e1 : ((p : Int) + i == s.size) = true := beq_iff_eq.2 (by omega)
      go_wp2_with fail
      rw [Exit.noGoto_ret]; go_ret3
      have hu : uv s.data.toList p = (0, 0, 8) := uv_bad hrv.out (by rw [List.drop_eq_nil_of_le (by omega)]; rfl) (by omega)
      rw [hu]
      exact ⟨rfl, m, rfl⟩
    · have e1 : ((p : Int) + i == s.size) = false := beq_eq_false_iff_ne.2 (by omega)
      have hlt : p + i < s.size := by omega
      have hcons : s.data.toList.drop (p + i) = s[p+i] :: s.data.toList.drop (p + (i + 1)) := by
        rw [List.drop_eq_getElem_cons (by omega)]; rfl
      obtain ⟨b, hb, hb256⟩ : ∃ b : Nat, s[p+i].toNat = b ∧ b < 256 := ⟨_, rfl, s[p+i].toNat_lt⟩
      have hbI : ∀ h, (((s[p+i]'h).toNat : Nat) : Int) = (b : Int) := fun _ => by rw [hb]
      have hbw : IntKind.u64.wrap (b : Int) = b := by rw [IntKind.wrap_u64]; omega
      by_cases c1 : i = 9
      · subst c1
        by_cases c2 : 1 < b
        · have f2 : ((1 : Int) < (b : Int)) = True := by simp; omega
          go_wp2_with fail
          rw [Exit.noGoto_ret]; go_ret3
          have hu : uv s.data.toList p = (0, 0, 4) := uv_bad hrv.out (by rw [hcons, rv, if_pos ⟨rfl, by omega⟩]) (by omega)
          rw [hu]
          exact ⟨rfl, m, rfl⟩
        · have f2 : ((1 : Int) < (b : Int)) = False := by simp; omega
          have f3 : ((b : Int) < 128) = True := by simp; omega
          have ho := or_nine hacc (by omega : b ≤ 1)
          obtain ⟨n, hn⟩ : ∃ n, n = acc + 128 ^ 9 * b := ⟨_, rfl⟩
          rw [← hn] at ho
          have hu : uv s.data.toList p = (n, p + 10, 0) := uv_ok hrv.out (by rw [hcons, rv, if_neg (by omega), if_pos (by omega), hb, hn])
          clear hn
          go_wp2_with fail
          rw [Exit.noGoto_ret]; go_ret3
          rw [hu]
          exact ⟨rfl, m, rfl⟩
      · have e3 : ((i : Int) == 9) = false := beq_eq_false_iff_ne.2 (by omega)
        by_cases c2 : b < 128
        · have f2 : ((b : Int) < 128) = True := by simp; omega
          have ho := or_wrap hacc (next_lt9 (by omega) hacc c2)
          obtain ⟨n, hn⟩ : ∃ n, n = acc + 128 ^ i * b := ⟨_, rfl⟩
          rw [← hn] at ho
          have hu : uv s.data.toList p = (n, p + (i + 1), 0) := uv_ok hrv.out (by rw [hcons, rv, if_neg (by omega), if_pos (by omega), hb, hn])
          clear hn
          go_wp2_with fail
          rw [Exit.noGoto_ret]; go_ret3
          rw [hu]
          exact ⟨by simp [Int.add_assoc], m, rfl⟩
        · have f2 : ((b : Int) < 128) = False := by simp; omega
          have hc := clear_nat hb256
          obtain ⟨c, hcb⟩ : ∃ c, c = b % 128 := ⟨_, rfl⟩
          rw [← hcb] at hc
          have ho := or_wrap hacc (next_lt9 (by omega) hacc (by omega : c < 128))
          have hnl := next_lt hacc (by omega : c < 128)
          obtain ⟨n, hn⟩ : ∃ n, n = acc + 128 ^ i * c := ⟨_, rfl⟩
          rw [← hn] at ho hnl
          have hu : Hid (rv (i + 1) n (s.data.toList.drop (p + (i + 1))) = rv 0 0 (s.data.toList.drop p)) := Lib.hid (by rw [← hrv.out, hcons, rv, if_neg (by omega), if_neg (by omega), hb, hn, hcb])
          clear hn hcb
          go_wp2_with fail
          go_roundw
          case rel =>
            exact ⟨i + 1, n, m, by first | rfl | (simp; done), rfl, by omega, hnl, by omega, hu, rfl⟩
          case measure => simp [intOf]; omega
def bits_Uvarint.f (a0 : ByteArray) (a1 : Int) : Option (Int × Int × Int) := if 0 ≤ a1 then (if a1 ≤ a0.size then (if a0.size ≤ 140737488351232 then some (((uv a0.data.toList a1.toNat).1 : Int), ((uv a0.data.toList a1.toNat).2.1 : Int), (uv a0.data.toList a1.toNat).2.2) else none) else none) else none
theorem bits_Uvarint.calls (a0 : ByteArray) (a1 : Int) (r1 r2 r3 : Int) (w : World) (h : bits_Uvarint.f a0 a1 = some (r1, r2, r3)) :
    Calls Try.prog 184 #[.string a0, .int .i64 a1] w fun e w' => e = .returned (.tuple #[.int .u64 r1, .int .i64 r2, .int .i64 r3]) ∧ Drawn0 w w' := by
  unfold bits_Uvarint.f at h
  by_cases h0 : 0 ≤ a1
  · by_cases h1 : a1 ≤ a0.size
    · by_cases h2 : a0.size ≤ 140737488351232
      · rw [if_pos h0, if_pos h1, if_pos h2] at h
        obtain ⟨n, rfl⟩ := Int.eq_ofNat_of_zero_le h0
        simp only [Option.some.injEq, Prod.mk.injEq] at h
        obtain ⟨rfl, rfl, rfl⟩ := h
        exact uvarint_any a0 n (by omega) h2 w
      · rw [if_pos h0, if_pos h1, if_neg h2] at h; cases h
    · rw [if_pos h0, if_neg h1] at h; cases h
  · rw [if_neg h0] at h; cases h

/-! ### bits_Reader_take: function 185 -/
def bits_Reader_take.f (s0_0 : ByteArray) (s0_1 : Int) (s0_2 : Int) (a1 : Int) (a2 : Int) : Option (Bool × ByteArray × Int × Int) := if a2 = 0 then (some (true, s0_0, a1, s0_2)) else (some (false, s0_0, s0_1, a2))
set_option maxHeartbeats 8000000 in
set_option maxRecDepth 100000 in
theorem bits_Reader_take.calls (g : Nat) (s0_0 : ByteArray) (s0_1 : Int) (s0_2 : Int) (a1 : Int) (a2 : Int) (r1 : Bool) (r2 : ByteArray) (r3 : Int) (r4 : Int) (w0 w : World) (hI : IsS225 w0 w g s0_0 s0_1 s0_2) (hB : Below w0.heap.size w0 w) (h : bits_Reader_take.f s0_0 s0_1 s0_2 a1 a2 = some (r1, r2, r3, r4)) :
    Calls Try.prog 185 #[.pointer (some ⟨g, 0, none⟩), .int .i64 a1, .int .i64 a2] w fun e w' => e = .returned (.bool r1) ∧ IsS225 w0 w' g r2 r3 r4 ∧ Below w0.heap.size w0 w' ∧ KeepBut w w' g none := by
  have HI0 := Aside0.mk hI
  have HK := Aside0.mk (KeepBut.refl w g none)
  have HL := Aside0.mk hB.size
  clear hI
  have HW0 := Aside0.mk hB.size
  have HB := Aside0.mk hB
  clear hB
  have H : (if a2 = 0 then (some (true, s0_0, a1, s0_2)) else (some (false, s0_0, s0_1, a2))) = some (r1, r2, r3, r4) := h
  clear h
  by_cases c4 : a2 = 0
  · rw [if_pos c4] at H
    have c4b0 : (a2 == 0) = true := beq_iff_eq.mpr c4
    have c4b1 : (a2 != 0) = false := bne_eq_false_iff_eq.mpr c4
    clear c4
    simp only [Option.some.injEq, Prod.mk.injEq] at H
    obtain ⟨rfl, rfl, rfl, rfl⟩ := H
    obtain ⟨HGz5, hgz5⟩ := HI0.out
    have hcz5_0 := cellS225_0 HGz5
    have hcz5_1 := cellS225_1 HGz5
    have hcz5_2 := cellS225_2 HGz5
    have hfz5_0 := blk_frozen HGz5 0
    have hfz5_1 := blk_frozen HGz5 1
    have hfz5_2 := blk_frozen HGz5 2
    clear HGz5 hgz5
    go_enter Try.func185, Try.ntmps185
    go_wp2
    go_ret
    exact ⟨by first | rfl | (simp [errW_none, errW_some] <;> rfl) | (simp [*, errW_none, errW_some] <;> rfl), by repeat (first | (with_reducible first | exact HI0.out | apply IsS225.alloc | apply IsS225.drewN | apply IsS225.drew | apply IsS225.set_0 | apply IsS225.set_1 | apply IsS225.set_2) | exact HI0.out), by repeat (first | (with_reducible first | exact HB.out | apply below_alloc | apply pw_below_drewN | apply below_drew1 | refine below_set ?_ (IsS225.ge HI0.out)) | exact HB.out), by repeat (first | (with_reducible first | exact HK.out | apply KeepBut.set_ | apply keep_drewN | apply keep_drew | apply keep_alloc) | exact HK.out)⟩
  · rw [if_neg c4] at H
    have c4b0 : (a2 == 0) = false := beq_eq_false_iff_ne.mpr c4
    have c4b1 : (a2 != 0) = true := bne_iff_ne.mpr c4
    simp only [Option.some.injEq, Prod.mk.injEq] at H
    obtain ⟨rfl, rfl, rfl, rfl⟩ := H
    obtain ⟨HGz6, hgz6⟩ := HI0.out
    have hcz6_0 := cellS225_0 HGz6
    have hcz6_1 := cellS225_1 HGz6
    have hcz6_2 := cellS225_2 HGz6
    have hfz6_0 := blk_frozen HGz6 0
    have hfz6_1 := blk_frozen HGz6 1
    have hfz6_2 := blk_frozen HGz6 2
    clear HGz6 hgz6
    go_enter Try.func185, Try.ntmps185
    go_wp2
    go_ret
    exact ⟨by first | rfl | (simp [errW_none, errW_some] <;> rfl) | (simp [*, errW_none, errW_some] <;> rfl), by repeat (first | (with_reducible first | exact HI0.out | apply IsS225.alloc | apply IsS225.drewN | apply IsS225.drew | apply IsS225.set_0 | apply IsS225.set_1 | apply IsS225.set_2) | exact HI0.out), by repeat (first | (with_reducible first | exact HB.out | apply below_alloc | apply pw_below_drewN | apply below_drew1 | refine below_set ?_ (IsS225.ge HI0.out)) | exact HB.out), by repeat (first | (with_reducible first | exact HK.out | apply KeepBut.set_ | apply keep_drewN | apply keep_drew | apply keep_alloc) | exact HK.out)⟩

/-! ### bits_Reader_Varint: function 146 -/
def bits_Reader_Varint.j0 : Nat → Int → Int → Int → Bool → ByteArray → Int → Int → Option (Int × ByteArray × Int × Int)
  | 0, _, _, _, _, _, _, _ => none
  | k + 1, x5, x6, x7, x30, x1000, x1001, x1002 => if x30 = true then ((bits_Reader_take.f x1000 x1001 x1002 x6 40).bind fun bt108 => (if bt108.1 = true then (some (x5, bt108.2.1, bt108.2.2.1, bt108.2.2.2)) else (some (0, bt108.2.1, bt108.2.2.1, bt108.2.2.2)))) else ((bits_Reader_take.f x1000 x1001 x1002 x6 x7).bind fun bt112 => (if bt112.1 = true then (some (x5, bt112.2.1, bt112.2.2.1, bt112.2.2.2)) else (some (0, bt112.2.1, bt112.2.2.1, bt112.2.2.2))))
def bits_Reader_Varint.f (k : Nat) (s0_0 : ByteArray) (s0_1 : Int) (s0_2 : Int) (a1 : Int) : Option (Int × ByteArray × Int × Int) := (bits_Reader_good.f s0_0 s0_1 s0_2).bind fun bt101 => (if bt101.1 = true then ((bits_Uvarint.f bt101.2.1 bt101.2.2.1).bind fun bt105 => (if bt105.2.2 = 0 then (bits_Reader_Varint.j0 k bt105.1 bt105.2.1 bt105.2.2 (decide (bt105.1 > a1)) bt101.2.1 bt101.2.2.1 bt101.2.2.2) else (bits_Reader_Varint.j0 k bt105.1 bt105.2.1 bt105.2.2 false bt101.2.1 bt101.2.2.1 bt101.2.2.2))) else (some (0, bt101.2.1, bt101.2.2.1, bt101.2.2.2)))
theorem bits_Reader_Varint.mono_l : ∀ k, (∀ y0 y1 y2 y3 y4 y5 y6, LeO (bits_Reader_Varint.j0 k y0 y1 y2 y3 y4 y5 y6) (bits_Reader_Varint.j0 (k + 1) y0 y1 y2 y3 y4 y5 y6))
  | 0 => fun _ _ _ _ _ _ _ r h => by simp [bits_Reader_Varint.j0] at h
  | k + 1 => by
    have ih0 := bits_Reader_Varint.mono_l k
    · intro y0 y1 y2 y3 y4 y5 y6
      unfold bits_Reader_Varint.j0
      repeat' first
      | (with_reducible exact ih0 _ _ _ _ _ _ _)
      | (with_reducible exact LeO.refl _)
      | (with_reducible exact LeO.none _)
      | (with_reducible refine LeO.ite ?_ ?_)
      | (with_reducible refine LeO.bind ?_ (fun _ => ?_))
      | exact ih0 _ _ _ _ _ _ _
      | exact LeO.none _
      | refine LeO.ite ?_ ?_
      | refine LeO.bind ?_ (fun _ => ?_)
theorem bits_Reader_Varint.mono : ∀ a0 a1 a2 a3 k, LeO (bits_Reader_Varint.f k a0 a1 a2 a3) (bits_Reader_Varint.f (k + 1) a0 a1 a2 a3) := by
  intro a0 a1 a2 a3 k
  have ih0 := bits_Reader_Varint.mono_l k
  unfold bits_Reader_Varint.f
  repeat' first
      | (with_reducible exact ih0 _ _ _ _ _ _ _)
      | (with_reducible exact LeO.refl _)
      | (with_reducible exact LeO.none _)
      | (with_reducible refine LeO.ite ?_ ?_)
      | (with_reducible refine LeO.bind ?_ (fun _ => ?_))
      | exact ih0 _ _ _ _ _ _ _
      | exact LeO.none _
      | refine LeO.ite ?_ ?_
      | refine LeO.bind ?_ (fun _ => ?_)
set_option maxHeartbeats 8000000 in
set_option maxRecDepth 100000 in
theorem bits_Reader_Varint.calls (k : Nat) (g : Nat) (s0_0 : ByteArray) (s0_1 : Int) (s0_2 : Int) (a1 : Int) (r1 : Int) (r2 : ByteArray) (r3 : Int) (r4 : Int) (w0 w : World) (hI : IsS225 w0 w g s0_0 s0_1 s0_2) (hB : Below w0.heap.size w0 w) (h : bits_Reader_Varint.f k s0_0 s0_1 s0_2 a1 = some (r1, r2, r3, r4)) :
    Calls Try.prog 146 #[.pointer (some ⟨g, 0, none⟩), .int .u64 a1] w fun e w' => e = .returned (.int .u64 r1) ∧ IsS225 w0 w' g r2 r3 r4 ∧ Below w0.heap.size w0 w' ∧ KeepBut w w' g none := by
  have HI0 := Aside0.mk hI
  have HK := Aside0.mk (KeepBut.refl w g none)
  have HL := Aside0.mk hB.size
  clear hI
  have HW0 := Aside0.mk hB.size
  have HB := Aside0.mk hB
  clear hB
  have H : ((bits_Reader_good.f s0_0 s0_1 s0_2).bind fun bt101 => (if bt101.1 = true then ((bits_Uvarint.f bt101.2.1 bt101.2.2.1).bind fun bt105 => (if bt105.2.2 = 0 then (bits_Reader_Varint.j0 k bt105.1 bt105.2.1 bt105.2.2 (decide (bt105.1 > a1)) bt101.2.1 bt101.2.2.1 bt101.2.2.2) else (bits_Reader_Varint.j0 k bt105.1 bt105.2.1 bt105.2.2 false bt101.2.1 bt101.2.2.1 bt101.2.2.2))) else (some (0, bt101.2.1, bt101.2.2.1, bt101.2.2.2)))) = some (r1, r2, r3, r4) := h
  clear h
  replace H := Option.bind_eq_some_iff.mp H
  obtain ⟨⟨t101, t102, t103, t104⟩, A30, H⟩ := H
  replace H : (if t101 = true then ((bits_Uvarint.f t102 t103).bind fun bt105 => (if bt105.2.2 = 0 then (bits_Reader_Varint.j0 k bt105.1 bt105.2.1 bt105.2.2 (decide (bt105.1 > a1)) t102 t103 t104) else (bits_Reader_Varint.j0 k bt105.1 bt105.2.1 bt105.2.2 false t102 t103 t104))) else (some (0, t102, t103, t104))) = some (r1, r2, r3, r4) := H
  have A3 := Aside0.mk A30
  clear A30
  by_cases c4 : t101 = true
  · subst c4
    have H1 : ((bits_Uvarint.f t102 t103).bind fun bt105 => (if bt105.2.2 = 0 then (bits_Reader_Varint.j0 k bt105.1 bt105.2.1 bt105.2.2 (decide (bt105.1 > a1)) t102 t103 t104) else (bits_Reader_Varint.j0 k bt105.1 bt105.2.1 bt105.2.2 false t102 t103 t104))) = some (r1, r2, r3, r4) := by rw [if_pos rfl] at H; exact H
    clear H
    have H := H1
    clear H1
    replace H := Option.bind_eq_some_iff.mp H
    obtain ⟨⟨t105, t106, t107⟩, A50, H⟩ := H
    replace H : (if t107 = 0 then (bits_Reader_Varint.j0 k t105 t106 t107 (decide (t105 > a1)) t102 t103 t104) else (bits_Reader_Varint.j0 k t105 t106 t107 false t102 t103 t104)) = some (r1, r2, r3, r4) := H
    have A5 := Aside0.mk A50
    clear A50
    have HC6 := Aside0.mk H
    clear H
    go_enter Try.func146, Try.ntmps146
    go_upto_region 4 with (first | (go_at_call 182; (with_reducible refine (bits_Reader_good.calls g s0_0 s0_1 s0_2 true t102 t103 t104 w0 _ ?side1 ?side2 A3.out).mono ?_); (case side1 => repeat (first | (with_reducible first | exact HI0.out | apply IsS225.alloc | apply IsS225.drewN | apply IsS225.drew | apply IsS225.set_0 | apply IsS225.set_1 | apply IsS225.set_2) | exact HI0.out)); (case side2 => repeat (first | (with_reducible first | exact HB.out | apply below_alloc | apply pw_below_drewN | apply below_drew1 | refine below_set ?_ (IsS225.ge HI0.out)) | exact HB.out)); rintro e w7 ⟨rfl, hi, hb, hk⟩; have n0_ := Aside0.mk (KeepBut.trans (by repeat (first | (with_reducible first | exact HK.out | apply KeepBut.set_ | apply keep_drewN | apply keep_drew | apply keep_alloc) | exact HK.out)) hk (.inl rfl)); have n1_ := Aside0.mk (hb); have n2_ := Aside0.mk (hi); clear HK; clear HB; clear HI0; have HK := n0_; have HB := n1_; have HI0 := n2_; clear n0_ n1_ n2_; (try clear hb); (try clear hb2); (try clear hk); (try clear hi); obtain ⟨HGz8, hgz8⟩ := HI0.out; have hcz8_0 := cellS225_0 HGz8; have hcz8_1 := cellS225_1 HGz8; have hcz8_2 := cellS225_2 HGz8; have hfz8_0 := blk_frozen HGz8 0; have hfz8_1 := blk_frozen HGz8 1; have hfz8_2 := blk_frozen HGz8 2; clear HGz8 hgz8) | (go_at_call 184; (with_reducible refine (bits_Uvarint.calls t102 t103 t105 t106 t107 _ A5.out).mono ?_); rintro e w' ⟨rfl, ⟨nd, rfl⟩⟩; (try first | exact ⟨rfl, _, World.drewN_drewN _ _ _⟩ | exact ⟨rfl, _, Eq.trans (World.drewN_drewN _ _ _) (congrArg (World.drewN _) (Nat.add_assoc _ _ _))⟩)))
    repeat (go_quiet (first | (go_at_call 182; (with_reducible refine (bits_Reader_good.calls g s0_0 s0_1 s0_2 true t102 t103 t104 w0 _ ?side1 ?side2 A3.out).mono ?_); (case side1 => repeat (first | (with_reducible first | exact HI0.out | apply IsS225.alloc | apply IsS225.drewN | apply IsS225.drew | apply IsS225.set_0 | apply IsS225.set_1 | apply IsS225.set_2) | exact HI0.out)); (case side2 => repeat (first | (with_reducible first | exact HB.out | apply below_alloc | apply pw_below_drewN | apply below_drew1 | refine below_set ?_ (IsS225.ge HI0.out)) | exact HB.out)); rintro e w7 ⟨rfl, hi, hb, hk⟩; have n0_ := Aside0.mk (KeepBut.trans (by repeat (first | (with_reducible first | exact HK.out | apply KeepBut.set_ | apply keep_drewN | apply keep_drew | apply keep_alloc) | exact HK.out)) hk (.inl rfl)); have n1_ := Aside0.mk (hb); have n2_ := Aside0.mk (hi); clear HK; clear HB; clear HI0; have HK := n0_; have HB := n1_; have HI0 := n2_; clear n0_ n1_ n2_; (try clear hb); (try clear hb2); (try clear hk); (try clear hi); obtain ⟨HGz8, hgz8⟩ := HI0.out; have hcz8_0 := cellS225_0 HGz8; have hcz8_1 := cellS225_1 HGz8; have hcz8_2 := cellS225_2 HGz8; have hfz8_0 := blk_frozen HGz8 0; have hfz8_1 := blk_frozen HGz8 1; have hfz8_2 := blk_frozen HGz8 2; clear HGz8 hgz8) | (go_at_call 184; (with_reducible refine (bits_Uvarint.calls t102 t103 t105 t106 t107 _ A5.out).mono ?_); rintro e w' ⟨rfl, ⟨nd, rfl⟩⟩; (try first | exact ⟨rfl, _, World.drewN_drewN _ _ _⟩ | exact ⟨rfl, _, Eq.trans (World.drewN_drewN _ _ _) (congrArg (World.drewN _) (Nat.add_assoc _ _ _))⟩))); go_upto_region 4 with (first | (go_at_call 182; (with_reducible refine (bits_Reader_good.calls g s0_0 s0_1 s0_2 true t102 t103 t104 w0 _ ?side1 ?side2 A3.out).mono ?_); (case side1 => repeat (first | (with_reducible first | exact HI0.out | apply IsS225.alloc | apply IsS225.drewN | apply IsS225.drew | apply IsS225.set_0 | apply IsS225.set_1 | apply IsS225.set_2) | exact HI0.out)); (case side2 => repeat (first | (with_reducible first | exact HB.out | apply below_alloc | apply pw_below_drewN | apply below_drew1 | refine below_set ?_ (IsS225.ge HI0.out)) | exact HB.out)); rintro e w7 ⟨rfl, hi, hb, hk⟩; have n0_ := Aside0.mk (KeepBut.trans (by repeat (first | (with_reducible first | exact HK.out | apply KeepBut.set_ | apply keep_drewN | apply keep_drew | apply keep_alloc) | exact HK.out)) hk (.inl rfl)); have n1_ := Aside0.mk (hb); have n2_ := Aside0.mk (hi); clear HK; clear HB; clear HI0; have HK := n0_; have HB := n1_; have HI0 := n2_; clear n0_ n1_ n2_; (try clear hb); (try clear hb2); (try clear hk); (try clear hi); obtain ⟨HGz8, hgz8⟩ := HI0.out; have hcz8_0 := cellS225_0 HGz8; have hcz8_1 := cellS225_1 HGz8; have hcz8_2 := cellS225_2 HGz8; have hfz8_0 := blk_frozen HGz8 0; have hfz8_1 := blk_frozen HGz8 1; have hfz8_2 := blk_frozen HGz8 2; clear HGz8 hgz8) | (go_at_call 184; (with_reducible refine (bits_Uvarint.calls t102 t103 t105 t106 t107 _ A5.out).mono ?_); rintro e w' ⟨rfl, ⟨nd, rfl⟩⟩; (try first | exact ⟨rfl, _, World.drewN_drewN _ _ _⟩ | exact ⟨rfl, _, Eq.trans (World.drewN_drewN _ _ _) (congrArg (World.drewN _) (Nat.add_assoc _ _ _))⟩))))
    (try simp only [Act.put, List.setIfInBounds_toArray, List.set_cons_zero, List.set_cons_succ])
    go_cut [30] (fun v30 wc => ∃ (kq : Nat) (x30_5 : Bool), v30 = .bool x30_5 ∧ Aside0 (bits_Reader_Varint.j0 kq t105 t106 t107 x30_5 t102 t103 t104 = some (r1, r2, r3, r4)) ∧ Aside0 (kq ≤ k) ∧ Aside0 (IsS225 w0 wc g t102 t103 t104) ∧ Aside0 (KeepBut w wc g none) ∧ Aside0 (Below w0.heap.size w0 wc))
    case first =>
      have H := HC6.out
      clear HC6
      by_cases c9 : t107 = 0
      · rw [if_pos c9] at H
        have c9b0 : (t107 == 0) = true := beq_iff_eq.mpr c9
        have c9b1 : (t107 != 0) = false := bne_eq_false_iff_eq.mpr c9
        clear c9
        (first | rw [c9b0] | (simp only [i64_w, i32_w]; rw [c9b0]) | skip)
        have H' := Aside0.mk H
        clear H
        go_wp2
        repeat (go_quiet (fail); try go_wp2)
        go_meet
        case rel => exact ⟨_, (decide (t105 > a1)), (by first | rfl | (simp; done) | (simp [*]; done)), H', ⟨by first | omega | exact Nat.le_refl _⟩, ⟨by repeat (first | (with_reducible first | exact HI0.out | apply IsS225.alloc | apply IsS225.drewN | apply IsS225.drew | apply IsS225.set_0 | apply IsS225.set_1 | apply IsS225.set_2) | exact HI0.out)⟩, ⟨by repeat (first | (with_reducible first | exact HK.out | apply KeepBut.set_ | apply keep_drewN | apply keep_drew | apply keep_alloc) | exact HK.out)⟩, ⟨by repeat (first | (with_reducible first | exact HB.out | apply below_alloc | apply pw_below_drewN | apply below_drew1 | refine below_set ?_ (IsS225.ge HI0.out)) | exact HB.out)⟩⟩
      · rw [if_neg c9] at H
        have c9b0 : (t107 == 0) = false := beq_eq_false_iff_ne.mpr c9
        have c9b1 : (t107 != 0) = true := bne_iff_ne.mpr c9
        (first | rw [c9b0] | (simp only [i64_w, i32_w]; rw [c9b0]) | skip)
        have H' := Aside0.mk H
        clear H
        go_wp2
        repeat (go_quiet (fail); try go_wp2)
        go_meet
        case rel => exact ⟨_, (false), (by first | rfl | (simp; done) | (simp [*]; done)), H', ⟨by first | omega | exact Nat.le_refl _⟩, ⟨by repeat (first | (with_reducible first | exact HI0.out | apply IsS225.alloc | apply IsS225.drewN | apply IsS225.drew | apply IsS225.set_0 | apply IsS225.set_1 | apply IsS225.set_2) | exact HI0.out)⟩, ⟨by repeat (first | (with_reducible first | exact HK.out | apply KeepBut.set_ | apply keep_drewN | apply keep_drew | apply keep_alloc) | exact HK.out)⟩, ⟨by repeat (first | (with_reducible first | exact HB.out | apply below_alloc | apply pw_below_drewN | apply below_drew1 | refine below_set ?_ (IsS225.ge HI0.out)) | exact HB.out)⟩⟩
    case rest =>
      clear HC6
      try clear c1
      try clear p2
      try clear c4
      try clear c9
      try clear c9b0
      try clear c9b1
      try clear hcz8_0
      try clear hcz8_1
      try clear hcz8_2
      try clear hfz8_0
      try clear hfz8_1
      try clear hfz8_2
      obtain ⟨kq, x30_5, rfl, HA, HJ5, HI0, HK, HB⟩ := hcut
      cases kq with
      | zero => exact absurd HA.out (by simp [bits_Reader_Varint.j0])
      | succ kj5 =>
        have H := HA.out
        clear HA
        simp only [bits_Reader_Varint.j0] at H
        by_cases c10 : x30_5 = true
        · subst c10
          have H1 : ((bits_Reader_take.f t102 t103 t104 t106 40).bind fun bt108 => (if bt108.1 = true then (some (t105, bt108.2.1, bt108.2.2.1, bt108.2.2.2)) else (some (0, bt108.2.1, bt108.2.2.1, bt108.2.2.2)))) = some (r1, r2, r3, r4) := by rw [if_pos rfl] at H; exact H
          clear H
          have H := H1
          clear H1
          replace H := Option.bind_eq_some_iff.mp H
          obtain ⟨⟨t108, t109, t110, t111⟩, A110, H⟩ := H
          replace H : (if t108 = true then (some (t105, t109, t110, t111)) else (some (0, t109, t110, t111))) = some (r1, r2, r3, r4) := H
          have A11 := Aside0.mk A110
          clear A110
          by_cases c12 : t108 = true
          · subst c12
            have H1 : (some (t105, t109, t110, t111)) = some (r1, r2, r3, r4) := by rw [if_pos rfl] at H; exact H
            clear H
            have H := H1
            clear H1
            simp only [Option.some.injEq, Prod.mk.injEq] at H
            obtain ⟨rfl, rfl, rfl, rfl⟩ := H
            go_wp2_with (first | (go_at_call 185; (with_reducible refine (bits_Reader_take.calls g t102 t103 t104 t106 40 true t109 t110 t111 w0 _ ?side1 ?side2 A11.out).mono ?_); (case side1 => repeat (first | (with_reducible first | exact HI0.out | apply IsS225.alloc | apply IsS225.drewN | apply IsS225.drew | apply IsS225.set_0 | apply IsS225.set_1 | apply IsS225.set_2) | exact HI0.out)); (case side2 => repeat (first | (with_reducible first | exact HB.out | apply below_alloc | apply pw_below_drewN | apply below_drew1 | refine below_set ?_ (IsS225.ge HI0.out)) | exact HB.out)); rintro e w13 ⟨rfl, hi, hb, hk⟩; have n0_ := Aside0.mk (KeepBut.trans (by repeat (first | (with_reducible first | exact HK.out | apply KeepBut.set_ | apply keep_drewN | apply keep_drew | apply keep_alloc) | exact HK.out)) hk (.inl rfl)); have n1_ := Aside0.mk (hb); have n2_ := Aside0.mk (hi); clear HK; clear HB; clear HI0; have HK := n0_; have HB := n1_; have HI0 := n2_; clear n0_ n1_ n2_; (try clear hb); (try clear hb2); (try clear hk); (try clear hi)))
            repeat (go_quiet (first | (go_at_call 185; (with_reducible refine (bits_Reader_take.calls g t102 t103 t104 t106 40 true t109 t110 t111 w0 _ ?side1 ?side2 A11.out).mono ?_); (case side1 => repeat (first | (with_reducible first | exact HI0.out | apply IsS225.alloc | apply IsS225.drewN | apply IsS225.drew | apply IsS225.set_0 | apply IsS225.set_1 | apply IsS225.set_2) | exact HI0.out)); (case side2 => repeat (first | (with_reducible first | exact HB.out | apply below_alloc | apply pw_below_drewN | apply below_drew1 | refine below_set ?_ (IsS225.ge HI0.out)) | exact HB.out)); rintro e w13 ⟨rfl, hi, hb, hk⟩; have n0_ := Aside0.mk (KeepBut.trans (by repeat (first | (with_reducible first | exact HK.out | apply KeepBut.set_ | apply keep_drewN | apply keep_drew | apply keep_alloc) | exact HK.out)) hk (.inl rfl)); have n1_ := Aside0.mk (hb); have n2_ := Aside0.mk (hi); clear HK; clear HB; clear HI0; have HK := n0_; have HB := n1_; have HI0 := n2_; clear n0_ n1_ n2_; (try clear hb); (try clear hb2); (try clear hk); (try clear hi))); try go_wp2_with (first | (go_at_call 185; (with_reducible refine (bits_Reader_take.calls g t102 t103 t104 t106 40 true t109 t110 t111 w0 _ ?side1 ?side2 A11.out).mono ?_); (case side1 => repeat (first | (with_reducible first | exact HI0.out | apply IsS225.alloc | apply IsS225.drewN | apply IsS225.drew | apply IsS225.set_0 | apply IsS225.set_1 | apply IsS225.set_2) | exact HI0.out)); (case side2 => repeat (first | (with_reducible first | exact HB.out | apply below_alloc | apply pw_below_drewN | apply below_drew1 | refine below_set ?_ (IsS225.ge HI0.out)) | exact HB.out)); rintro e w13 ⟨rfl, hi, hb, hk⟩; have n0_ := Aside0.mk (KeepBut.trans (by repeat (first | (with_reducible first | exact HK.out | apply KeepBut.set_ | apply keep_drewN | apply keep_drew | apply keep_alloc) | exact HK.out)) hk (.inl rfl)); have n1_ := Aside0.mk (hb); have n2_ := Aside0.mk (hi); clear HK; clear HB; clear HI0; have HK := n0_; have HB := n1_; have HI0 := n2_; clear n0_ n1_ n2_; (try clear hb); (try clear hb2); (try clear hk); (try clear hi))))
            go_ret
            exact ⟨by first | rfl | (simp [errW_none, errW_some] <;> rfl) | (simp [*, errW_none, errW_some] <;> rfl), by repeat (first | (with_reducible first | exact HI0.out | apply IsS225.alloc | apply IsS225.drewN | apply IsS225.drew | apply IsS225.set_0 | apply IsS225.set_1 | apply IsS225.set_2) | exact HI0.out), by repeat (first | (with_reducible first | exact HB.out | apply below_alloc | apply pw_below_drewN | apply below_drew1 | refine below_set ?_ (IsS225.ge HI0.out)) | exact HB.out), by repeat (first | (with_reducible first | exact HK.out | apply KeepBut.set_ | apply keep_drewN | apply keep_drew | apply keep_alloc) | exact HK.out)⟩
          · replace c12 := Bool.eq_false_iff.mpr c12
            subst c12
            have H1 : (some (0, t109, t110, t111)) = some (r1, r2, r3, r4) := by rw [if_neg (show ¬ (false = true) by decide)] at H; exact H
            clear H
            have H := H1
            clear H1
            simp only [Option.some.injEq, Prod.mk.injEq] at H
            obtain ⟨rfl, rfl, rfl, rfl⟩ := H
            go_wp2_with (first | (go_at_call 185; (with_reducible refine (bits_Reader_take.calls g t102 t103 t104 t106 40 false t109 t110 t111 w0 _ ?side1 ?side2 A11.out).mono ?_); (case side1 => repeat (first | (with_reducible first | exact HI0.out | apply IsS225.alloc | apply IsS225.drewN | apply IsS225.drew | apply IsS225.set_0 | apply IsS225.set_1 | apply IsS225.set_2) | exact HI0.out)); (case side2 => repeat (first | (with_reducible first | exact HB.out | apply below_alloc | apply pw_below_drewN | apply below_drew1 | refine below_set ?_ (IsS225.ge HI0.out)) | exact HB.out)); rintro e w14 ⟨rfl, hi, hb, hk⟩; have n0_ := Aside0.mk (KeepBut.trans (by repeat (first | (with_reducible first | exact HK.out | apply KeepBut.set_ | apply keep_drewN | apply keep_drew | apply keep_alloc) | exact HK.out)) hk (.inl rfl)); have n1_ := Aside0.mk (hb); have n2_ := Aside0.mk (hi); clear HK; clear HB; clear HI0; have HK := n0_; have HB := n1_; have HI0 := n2_; clear n0_ n1_ n2_; (try clear hb); (try clear hb2); (try clear hk); (try clear hi)))
            repeat (go_quiet (first | (go_at_call 185; (with_reducible refine (bits_Reader_take.calls g t102 t103 t104 t106 40 false t109 t110 t111 w0 _ ?side1 ?side2 A11.out).mono ?_); (case side1 => repeat (first | (with_reducible first | exact HI0.out | apply IsS225.alloc | apply IsS225.drewN | apply IsS225.drew | apply IsS225.set_0 | apply IsS225.set_1 | apply IsS225.set_2) | exact HI0.out)); (case side2 => repeat (first | (with_reducible first | exact HB.out | apply below_alloc | apply pw_below_drewN | apply below_drew1 | refine below_set ?_ (IsS225.ge HI0.out)) | exact HB.out)); rintro e w14 ⟨rfl, hi, hb, hk⟩; have n0_ := Aside0.mk (KeepBut.trans (by repeat (first | (with_reducible first | exact HK.out | apply KeepBut.set_ | apply keep_drewN | apply keep_drew | apply keep_alloc) | exact HK.out)) hk (.inl rfl)); have n1_ := Aside0.mk (hb); have n2_ := Aside0.mk (hi); clear HK; clear HB; clear HI0; have HK := n0_; have HB := n1_; have HI0 := n2_; clear n0_ n1_ n2_; (try clear hb); (try clear hb2); (try clear hk); (try clear hi))); try go_wp2_with (first | (go_at_call 185; (with_reducible refine (bits_Reader_take.calls g t102 t103 t104 t106 40 false t109 t110 t111 w0 _ ?side1 ?side2 A11.out).mono ?_); (case side1 => repeat (first | (with_reducible first | exact HI0.out | apply IsS225.alloc | apply IsS225.drewN | apply IsS225.drew | apply IsS225.set_0 | apply IsS225.set_1 | apply IsS225.set_2) | exact HI0.out)); (case side2 => repeat (first | (with_reducible first | exact HB.out | apply below_alloc | apply pw_below_drewN | apply below_drew1 | refine below_set ?_ (IsS225.ge HI0.out)) | exact HB.out)); rintro e w14 ⟨rfl, hi, hb, hk⟩; have n0_ := Aside0.mk (KeepBut.trans (by repeat (first | (with_reducible first | exact HK.out | apply KeepBut.set_ | apply keep_drewN | apply keep_drew | apply keep_alloc) | exact HK.out)) hk (.inl rfl)); have n1_ := Aside0.mk (hb); have n2_ := Aside0.mk (hi); clear HK; clear HB; clear HI0; have HK := n0_; have HB := n1_; have HI0 := n2_; clear n0_ n1_ n2_; (try clear hb); (try clear hb2); (try clear hk); (try clear hi))))
            go_ret
            exact ⟨by first | rfl | (simp [errW_none, errW_some] <;> rfl) | (simp [*, errW_none, errW_some] <;> rfl), by repeat (first | (with_reducible first | exact HI0.out | apply IsS225.alloc | apply IsS225.drewN | apply IsS225.drew | apply IsS225.set_0 | apply IsS225.set_1 | apply IsS225.set_2) | exact HI0.out), by repeat (first | (with_reducible first | exact HB.out | apply below_alloc | apply pw_below_drewN | apply below_drew1 | refine below_set ?_ (IsS225.ge HI0.out)) | exact HB.out), by repeat (first | (with_reducible first | exact HK.out | apply KeepBut.set_ | apply keep_drewN | apply keep_drew | apply keep_alloc) | exact HK.out)⟩
        · replace c10 := Bool.eq_false_iff.mpr c10
          subst c10
          have H1 : ((bits_Reader_take.f t102 t103 t104 t106 t107).bind fun bt112 => (if bt112.1 = true then (some (t105, bt112.2.1, bt112.2.2.1, bt112.2.2.2)) else (some (0, bt112.2.1, bt112.2.2.1, bt112.2.2.2)))) = some (r1, r2, r3, r4) := by rw [if_neg (show ¬ (false = true) by decide)] at H; exact H
          clear H
          have H := H1
          clear H1
          replace H := Option.bind_eq_some_iff.mp H
          obtain ⟨⟨t112, t113, t114, t115⟩, A150, H⟩ := H
          replace H : (if t112 = true then (some (t105, t113, t114, t115)) else (some (0, t113, t114, t115))) = some (r1, r2, r3, r4) := H
          have A15 := Aside0.mk A150
          clear A150
          by_cases c16 : t112 = true
          · subst c16
            have H1 : (some (t105, t113, t114, t115)) = some (r1, r2, r3, r4) := by rw [if_pos rfl] at H; exact H
            clear H
            have H := H1
            clear H1
            simp only [Option.some.injEq, Prod.mk.injEq] at H
            obtain ⟨rfl, rfl, rfl, rfl⟩ := H
            go_wp2_with (first | (go_at_call 185; (with_reducible refine (bits_Reader_take.calls g t102 t103 t104 t106 t107 true t113 t114 t115 w0 _ ?side1 ?side2 A15.out).mono ?_); (case side1 => repeat (first | (with_reducible first | exact HI0.out | apply IsS225.alloc | apply IsS225.drewN | apply IsS225.drew | apply IsS225.set_0 | apply IsS225.set_1 | apply IsS225.set_2) | exact HI0.out)); (case side2 => repeat (first | (with_reducible first | exact HB.out | apply below_alloc | apply pw_below_drewN | apply below_drew1 | refine below_set ?_ (IsS225.ge HI0.out)) | exact HB.out)); rintro e w17 ⟨rfl, hi, hb, hk⟩; have n0_ := Aside0.mk (KeepBut.trans (by repeat (first | (with_reducible first | exact HK.out | apply KeepBut.set_ | apply keep_drewN | apply keep_drew | apply keep_alloc) | exact HK.out)) hk (.inl rfl)); have n1_ := Aside0.mk (hb); have n2_ := Aside0.mk (hi); clear HK; clear HB; clear HI0; have HK := n0_; have HB := n1_; have HI0 := n2_; clear n0_ n1_ n2_; (try clear hb); (try clear hb2); (try clear hk); (try clear hi)))
            repeat (go_quiet (first | (go_at_call 185; (with_reducible refine (bits_Reader_take.calls g t102 t103 t104 t106 t107 true t113 t114 t115 w0 _ ?side1 ?side2 A15.out).mono ?_); (case side1 => repeat (first | (with_reducible first | exact HI0.out | apply IsS225.alloc | apply IsS225.drewN | apply IsS225.drew | apply IsS225.set_0 | apply IsS225.set_1 | apply IsS225.set_2) | exact HI0.out)); (case side2 => repeat (first | (with_reducible first | exact HB.out | apply below_alloc | apply pw_below_drewN | apply below_drew1 | refine below_set ?_ (IsS225.ge HI0.out)) | exact HB.out)); rintro e w17 ⟨rfl, hi, hb, hk⟩; have n0_ := Aside0.mk (KeepBut.trans (by repeat (first | (with_reducible first | exact HK.out | apply KeepBut.set_ | apply keep_drewN | apply keep_drew | apply keep_alloc) | exact HK.out)) hk (.inl rfl)); have n1_ := Aside0.mk (hb); have n2_ := Aside0.mk (hi); clear HK; clear HB; clear HI0; have HK := n0_; have HB := n1_; have HI0 := n2_; clear n0_ n1_ n2_; (try clear hb); (try clear hb2); (try clear hk); (try clear hi))); try go_wp2_with (first | (go_at_call 185; (with_reducible refine (bits_Reader_take.calls g t102 t103 t104 t106 t107 true t113 t114 t115 w0 _ ?side1 ?side2 A15.out).mono ?_); (case side1 => repeat (first | (with_reducible first | exact HI0.out | apply IsS225.alloc | apply IsS225.drewN | apply IsS225.drew | apply IsS225.set_0 | apply IsS225.set_1 | apply IsS225.set_2) | exact HI0.out)); (case side2 => repeat (first | (with_reducible first | exact HB.out | apply below_alloc | apply pw_below_drewN | apply below_drew1 | refine below_set ?_ (IsS225.ge HI0.out)) | exact HB.out)); rintro e w17 ⟨rfl, hi, hb, hk⟩; have n0_ := Aside0.mk (KeepBut.trans (by repeat (first | (with_reducible first | exact HK.out | apply KeepBut.set_ | apply keep_drewN | apply keep_drew | apply keep_alloc) | exact HK.out)) hk (.inl rfl)); have n1_ := Aside0.mk (hb); have n2_ := Aside0.mk (hi); clear HK; clear HB; clear HI0; have HK := n0_; have HB := n1_; have HI0 := n2_; clear n0_ n1_ n2_; (try clear hb); (try clear hb2); (try clear hk); (try clear hi))))
            go_ret
            exact ⟨by first | rfl | (simp [errW_none, errW_some] <;> rfl) | (simp [*, errW_none, errW_some] <;> rfl), by repeat (first | (with_reducible first | exact HI0.out | apply IsS225.alloc | apply IsS225.drewN | apply IsS225.drew | apply IsS225.set_0 | apply IsS225.set_1 | apply IsS225.set_2) | exact HI0.out), by repeat (first | (with_reducible first | exact HB.out | apply below_alloc | apply pw_below_drewN | apply below_drew1 | refine below_set ?_ (IsS225.ge HI0.out)) | exact HB.out), by repeat (first | (with_reducible first | exact HK.out | apply KeepBut.set_ | apply keep_drewN | apply keep_drew | apply keep_alloc) | exact HK.out)⟩
          · replace c16 := Bool.eq_false_iff.mpr c16
            subst c16
            have H1 : (some (0, t113, t114, t115)) = some (r1, r2, r3, r4) := by rw [if_neg (show ¬ (false = true) by decide)] at H; exact H
            clear H
            have H := H1
            clear H1
            simp only [Option.some.injEq, Prod.mk.injEq] at H
            obtain ⟨rfl, rfl, rfl, rfl⟩ := H
            go_wp2_with (first | (go_at_call 185; (with_reducible refine (bits_Reader_take.calls g t102 t103 t104 t106 t107 false t113 t114 t115 w0 _ ?side1 ?side2 A15.out).mono ?_); (case side1 => repeat (first | (with_reducible first | exact HI0.out | apply IsS225.alloc | apply IsS225.drewN | apply IsS225.drew | apply IsS225.set_0 | apply IsS225.set_1 | apply IsS225.set_2) | exact HI0.out)); (case side2 => repeat (first | (with_reducible first | exact HB.out | apply below_alloc | apply pw_below_drewN | apply below_drew1 | refine below_set ?_ (IsS225.ge HI0.out)) | exact HB.out)); rintro e w18 ⟨rfl, hi, hb, hk⟩; have n0_ := Aside0.mk (KeepBut.trans (by repeat (first | (with_reducible first | exact HK.out | apply KeepBut.set_ | apply keep_drewN | apply keep_drew | apply keep_alloc) | exact HK.out)) hk (.inl rfl)); have n1_ := Aside0.mk (hb); have n2_ := Aside0.mk (hi); clear HK; clear HB; clear HI0; have HK := n0_; have HB := n1_; have HI0 := n2_; clear n0_ n1_ n2_; (try clear hb); (try clear hb2); (try clear hk); (try clear hi)))
            repeat (go_quiet (first | (go_at_call 185; (with_reducible refine (bits_Reader_take.calls g t102 t103 t104 t106 t107 false t113 t114 t115 w0 _ ?side1 ?side2 A15.out).mono ?_); (case side1 => repeat (first | (with_reducible first | exact HI0.out | apply IsS225.alloc | apply IsS225.drewN | apply IsS225.drew | apply IsS225.set_0 | apply IsS225.set_1 | apply IsS225.set_2) | exact HI0.out)); (case side2 => repeat (first | (with_reducible first | exact HB.out | apply below_alloc | apply pw_below_drewN | apply below_drew1 | refine below_set ?_ (IsS225.ge HI0.out)) | exact HB.out)); rintro e w18 ⟨rfl, hi, hb, hk⟩; have n0_ := Aside0.mk (KeepBut.trans (by repeat (first | (with_reducible first | exact HK.out | apply KeepBut.set_ | apply keep_drewN | apply keep_drew | apply keep_alloc) | exact HK.out)) hk (.inl rfl)); have n1_ := Aside0.mk (hb); have n2_ := Aside0.mk (hi); clear HK; clear HB; clear HI0; have HK := n0_; have HB := n1_; have HI0 := n2_; clear n0_ n1_ n2_; (try clear hb); (try clear hb2); (try clear hk); (try clear hi))); try go_wp2_with (first | (go_at_call 185; (with_reducible refine (bits_Reader_take.calls g t102 t103 t104 t106 t107 false t113 t114 t115 w0 _ ?side1 ?side2 A15.out).mono ?_); (case side1 => repeat (first | (with_reducible first | exact HI0.out | apply IsS225.alloc | apply IsS225.drewN | apply IsS225.drew | apply IsS225.set_0 | apply IsS225.set_1 | apply IsS225.set_2) | exact HI0.out)); (case side2 => repeat (first | (with_reducible first | exact HB.out | apply below_alloc | apply pw_below_drewN | apply below_drew1 | refine below_set ?_ (IsS225.ge HI0.out)) | exact HB.out)); rintro e w18 ⟨rfl, hi, hb, hk⟩; have n0_ := Aside0.mk (KeepBut.trans (by repeat (first | (with_reducible first | exact HK.out | apply KeepBut.set_ | apply keep_drewN | apply keep_drew | apply keep_alloc) | exact HK.out)) hk (.inl rfl)); have n1_ := Aside0.mk (hb); have n2_ := Aside0.mk (hi); clear HK; clear HB; clear HI0; have HK := n0_; have HB := n1_; have HI0 := n2_; clear n0_ n1_ n2_; (try clear hb); (try clear hb2); (try clear hk); (try clear hi))))
            go_ret
            exact ⟨by first | rfl | (simp [errW_none, errW_some] <;> rfl) | (simp [*, errW_none, errW_some] <;> rfl), by repeat (first | (with_reducible first | exact HI0.out | apply IsS225.alloc | apply IsS225.drewN | apply IsS225.drew | apply IsS225.set_0 | apply IsS225.set_1 | apply IsS225.set_2) | exact HI0.out), by repeat (first | (with_reducible first | exact HB.out | apply below_alloc | apply pw_below_drewN | apply below_drew1 | refine below_set ?_ (IsS225.ge HI0.out)) | exact HB.out), by repeat (first | (with_reducible first | exact HK.out | apply KeepBut.set_ | apply keep_drewN | apply keep_drew | apply keep_alloc) | exact HK.out)⟩
  · replace c4 := Bool.eq_false_iff.mpr c4
    subst c4
    have H1 : (some (0, t102, t103, t104)) = some (r1, r2, r3, r4) := by rw [if_neg (show ¬ (false = true) by decide)] at H; exact H
    clear H
    have H := H1
    clear H1
    simp only [Option.some.injEq, Prod.mk.injEq] at H
    obtain ⟨rfl, rfl, rfl, rfl⟩ := H
    go_enter Try.func146, Try.ntmps146
    go_wp2_with (first | (go_at_call 182; (with_reducible refine (bits_Reader_good.calls g s0_0 s0_1 s0_2 false t102 t103 t104 w0 _ ?side1 ?side2 A3.out).mono ?_); (case side1 => repeat (first | (with_reducible first | exact HI0.out | apply IsS225.alloc | apply IsS225.drewN | apply IsS225.drew | apply IsS225.set_0 | apply IsS225.set_1 | apply IsS225.set_2) | exact HI0.out)); (case side2 => repeat (first | (with_reducible first | exact HB.out | apply below_alloc | apply pw_below_drewN | apply below_drew1 | refine below_set ?_ (IsS225.ge HI0.out)) | exact HB.out)); rintro e w19 ⟨rfl, hi, hb, hk⟩; have n0_ := Aside0.mk (KeepBut.trans (by repeat (first | (with_reducible first | exact HK.out | apply KeepBut.set_ | apply keep_drewN | apply keep_drew | apply keep_alloc) | exact HK.out)) hk (.inl rfl)); have n1_ := Aside0.mk (hb); have n2_ := Aside0.mk (hi); clear HK; clear HB; clear HI0; have HK := n0_; have HB := n1_; have HI0 := n2_; clear n0_ n1_ n2_; (try clear hb); (try clear hb2); (try clear hk); (try clear hi)))
    repeat (go_quiet (first | (go_at_call 182; (with_reducible refine (bits_Reader_good.calls g s0_0 s0_1 s0_2 false t102 t103 t104 w0 _ ?side1 ?side2 A3.out).mono ?_); (case side1 => repeat (first | (with_reducible first | exact HI0.out | apply IsS225.alloc | apply IsS225.drewN | apply IsS225.drew | apply IsS225.set_0 | apply IsS225.set_1 | apply IsS225.set_2) | exact HI0.out)); (case side2 => repeat (first | (with_reducible first | exact HB.out | apply below_alloc | apply pw_below_drewN | apply below_drew1 | refine below_set ?_ (IsS225.ge HI0.out)) | exact HB.out)); rintro e w19 ⟨rfl, hi, hb, hk⟩; have n0_ := Aside0.mk (KeepBut.trans (by repeat (first | (with_reducible first | exact HK.out | apply KeepBut.set_ | apply keep_drewN | apply keep_drew | apply keep_alloc) | exact HK.out)) hk (.inl rfl)); have n1_ := Aside0.mk (hb); have n2_ := Aside0.mk (hi); clear HK; clear HB; clear HI0; have HK := n0_; have HB := n1_; have HI0 := n2_; clear n0_ n1_ n2_; (try clear hb); (try clear hb2); (try clear hk); (try clear hi))); try go_wp2_with (first | (go_at_call 182; (with_reducible refine (bits_Reader_good.calls g s0_0 s0_1 s0_2 false t102 t103 t104 w0 _ ?side1 ?side2 A3.out).mono ?_); (case side1 => repeat (first | (with_reducible first | exact HI0.out | apply IsS225.alloc | apply IsS225.drewN | apply IsS225.drew | apply IsS225.set_0 | apply IsS225.set_1 | apply IsS225.set_2) | exact HI0.out)); (case side2 => repeat (first | (with_reducible first | exact HB.out | apply below_alloc | apply pw_below_drewN | apply below_drew1 | refine below_set ?_ (IsS225.ge HI0.out)) | exact HB.out)); rintro e w19 ⟨rfl, hi, hb, hk⟩; have n0_ := Aside0.mk (KeepBut.trans (by repeat (first | (with_reducible first | exact HK.out | apply KeepBut.set_ | apply keep_drewN | apply keep_drew | apply keep_alloc) | exact HK.out)) hk (.inl rfl)); have n1_ := Aside0.mk (hb); have n2_ := Aside0.mk (hi); clear HK; clear HB; clear HI0; have HK := n0_; have HB := n1_; have HI0 := n2_; clear n0_ n1_ n2_; (try clear hb); (try clear hb2); (try clear hk); (try clear hi))))
    go_ret
    exact ⟨by first | rfl | (simp [errW_none, errW_some] <;> rfl) | (simp [*, errW_none, errW_some] <;> rfl), by repeat (first | (with_reducible first | exact HI0.out | apply IsS225.alloc | apply IsS225.drewN | apply IsS225.drew | apply IsS225.set_0 | apply IsS225.set_1 | apply IsS225.set_2) | exact HI0.out), by repeat (first | (with_reducible first | exact HB.out | apply below_alloc | apply pw_below_drewN | apply below_drew1 | refine below_set ?_ (IsS225.ge HI0.out)) | exact HB.out), by repeat (first | (with_reducible first | exact HK.out | apply KeepBut.set_ | apply keep_drewN | apply keep_drew | apply keep_alloc) | exact HK.out)⟩

/-! ### bits_Reader_Left: function 181 -/
def bits_Reader_Left.f (s0_0 : ByteArray) (s0_1 : Int) (s0_2 : Int) : Option (Int × ByteArray × Int × Int) := some (wrap64 ((s0_0.size : Int) - s0_1), s0_0, s0_1, s0_2)
set_option maxHeartbeats 8000000 in
set_option maxRecDepth 100000 in
theorem bits_Reader_Left.calls (g : Nat) (s0_0 : ByteArray) (s0_1 : Int) (s0_2 : Int) (r1 : Int) (r2 : ByteArray) (r3 : Int) (r4 : Int) (w0 w : World) (hI : IsS225 w0 w g s0_0 s0_1 s0_2) (hB : Below w0.heap.size w0 w) (h : bits_Reader_Left.f s0_0 s0_1 s0_2 = some (r1, r2, r3, r4)) :
    Calls Try.prog 181 #[.pointer (some ⟨g, 0, none⟩)] w fun e w' => e = .returned (.int .i64 r1) ∧ IsS225 w0 w' g r2 r3 r4 ∧ Below w0.heap.size w0 w' ∧ KeepBut w w' g none := by
  have HI0 := Aside0.mk hI
  have HK := Aside0.mk (KeepBut.refl w g none)
  have HB := Aside0.mk hB
  clear hI hB
  unfold bits_Reader_Left.f at h
  simp only [Option.some.injEq, Prod.mk.injEq] at h
  obtain ⟨rfl, rfl, rfl, rfl⟩ := h
  obtain ⟨HG, hg⟩ := HI0.out
  have hc0 := cellS225_0 HG
  have hc1 := cellS225_1 HG
  have hc2 := cellS225_2 HG
  clear HG hg
  go_enter Try.func181, Try.ntmps181
  go_wp2
  repeat (go_quiet (fail); go_wp2)
  first | go_end0 | go_ret
  exact ⟨by first | rfl | (simp; done) | (simp [*]; done), by repeat (first | (with_reducible first | exact HI0.out | apply IsS225.alloc | apply IsS225.drewN | apply IsS225.drew) | exact HI0.out), by repeat (first | (with_reducible first | exact HB.out | apply below_alloc | apply pw_below_drewN | apply below_drew1) | exact HB.out), by repeat (first | (with_reducible first | exact HK.out | apply keep_drewN | apply keep_drew | apply keep_alloc) | exact HK.out)⟩

/-! ### bits_Reader_Raw: function 183 -/
def bits_Reader_Raw.f (s0_0 : ByteArray) (s0_1 : Int) (s0_2 : Int) (a1 : Int) : Option (ByteArray × ByteArray × Int × Int) := (bits_Reader_good.f s0_0 s0_1 s0_2).bind fun bt116 => (if bt116.1 = true then (if a1 < 0 then (some ((⟨#[]⟩ : ByteArray), bt116.2.1, bt116.2.2.1, 1)) else ((bits_Reader_Left.f bt116.2.1 bt116.2.2.1 bt116.2.2.2).bind fun bt120 => (if bt120.1 < a1 then (some ((⟨#[]⟩ : ByteArray), bt120.2.1, bt120.2.2.1, 8)) else (if 0 ≤ (wrap64 ((wrap64 (bt120.2.2.1 + a1)) - a1)) then (if (wrap64 ((wrap64 (bt120.2.2.1 + a1)) - a1)) ≤ (wrap64 (bt120.2.2.1 + a1)) then (if (wrap64 (bt120.2.2.1 + a1)) ≤ (bt120.2.1.size : Int) then (some (bt120.2.1.extract ((wrap64 ((wrap64 (bt120.2.2.1 + a1)) - a1)) : Int).toNat ((wrap64 (bt120.2.2.1 + a1)) : Int).toNat, bt120.2.1, wrap64 (bt120.2.2.1 + a1), bt120.2.2.2)) else (none)) else (none)) else (none))))) else (some ((⟨#[]⟩ : ByteArray), bt116.2.1, bt116.2.2.1, bt116.2.2.2)))
set_option maxHeartbeats 8000000 in
set_option maxRecDepth 100000 in
theorem bits_Reader_Raw.calls (g : Nat) (s0_0 : ByteArray) (s0_1 : Int) (s0_2 : Int) (a1 : Int) (r1 : ByteArray) (r2 : ByteArray) (r3 : Int) (r4 : Int) (w0 w : World) (hI : IsS225 w0 w g s0_0 s0_1 s0_2) (hB : Below w0.heap.size w0 w) (h : bits_Reader_Raw.f s0_0 s0_1 s0_2 a1 = some (r1, r2, r3, r4)) :
    Calls Try.prog 183 #[.pointer (some ⟨g, 0, none⟩), .int .i64 a1] w fun e w' => e = .returned (.string r1) ∧ IsS225 w0 w' g r2 r3 r4 ∧ Below w0.heap.size w0 w' ∧ KeepBut w w' g none := by
  have HI0 := Aside0.mk hI
  have HK := Aside0.mk (KeepBut.refl w g none)
  have HL := Aside0.mk hB.size
  clear hI
  have HW0 := Aside0.mk hB.size
  have HB := Aside0.mk hB
  clear hB
  have H : ((bits_Reader_good.f s0_0 s0_1 s0_2).bind fun bt116 => (if bt116.1 = true then (if a1 < 0 then (some ((⟨#[]⟩ : ByteArray), bt116.2.1, bt116.2.2.1, 1)) else ((bits_Reader_Left.f bt116.2.1 bt116.2.2.1 bt116.2.2.2).bind fun bt120 => (if bt120.1 < a1 then (some ((⟨#[]⟩ : ByteArray), bt120.2.1, bt120.2.2.1, 8)) else (if 0 ≤ (wrap64 ((wrap64 (bt120.2.2.1 + a1)) - a1)) then (if (wrap64 ((wrap64 (bt120.2.2.1 + a1)) - a1)) ≤ (wrap64 (bt120.2.2.1 + a1)) then (if (wrap64 (bt120.2.2.1 + a1)) ≤ (bt120.2.1.size : Int) then (some (bt120.2.1.extract ((wrap64 ((wrap64 (bt120.2.2.1 + a1)) - a1)) : Int).toNat ((wrap64 (bt120.2.2.1 + a1)) : Int).toNat, bt120.2.1, wrap64 (bt120.2.2.1 + a1), bt120.2.2.2)) else (none)) else (none)) else (none))))) else (some ((⟨#[]⟩ : ByteArray), bt116.2.1, bt116.2.2.1, bt116.2.2.2)))) = some (r1, r2, r3, r4) := h
  clear h
  replace H := Option.bind_eq_some_iff.mp H
  obtain ⟨⟨t116, t117, t118, t119⟩, A30, H⟩ := H
  replace H : (if t116 = true then (if a1 < 0 then (some ((⟨#[]⟩ : ByteArray), t117, t118, 1)) else ((bits_Reader_Left.f t117 t118 t119).bind fun bt120 => (if bt120.1 < a1 then (some ((⟨#[]⟩ : ByteArray), bt120.2.1, bt120.2.2.1, 8)) else (if 0 ≤ (wrap64 ((wrap64 (bt120.2.2.1 + a1)) - a1)) then (if (wrap64 ((wrap64 (bt120.2.2.1 + a1)) - a1)) ≤ (wrap64 (bt120.2.2.1 + a1)) then (if (wrap64 (bt120.2.2.1 + a1)) ≤ (bt120.2.1.size : Int) then (some (bt120.2.1.extract ((wrap64 ((wrap64 (bt120.2.2.1 + a1)) - a1)) : Int).toNat ((wrap64 (bt120.2.2.1 + a1)) : Int).toNat, bt120.2.1, wrap64 (bt120.2.2.1 + a1), bt120.2.2.2)) else (none)) else (none)) else (none))))) else (some ((⟨#[]⟩ : ByteArray), t117, t118, t119))) = some (r1, r2, r3, r4) := H
  have A3 := Aside0.mk A30
  clear A30
  by_cases c4 : t116 = true
  · subst c4
    have H1 : (if a1 < 0 then (some ((⟨#[]⟩ : ByteArray), t117, t118, 1)) else ((bits_Reader_Left.f t117 t118 t119).bind fun bt120 => (if bt120.1 < a1 then (some ((⟨#[]⟩ : ByteArray), bt120.2.1, bt120.2.2.1, 8)) else (if 0 ≤ (wrap64 ((wrap64 (bt120.2.2.1 + a1)) - a1)) then (if (wrap64 ((wrap64 (bt120.2.2.1 + a1)) - a1)) ≤ (wrap64 (bt120.2.2.1 + a1)) then (if (wrap64 (bt120.2.2.1 + a1)) ≤ (bt120.2.1.size : Int) then (some (bt120.2.1.extract ((wrap64 ((wrap64 (bt120.2.2.1 + a1)) - a1)) : Int).toNat ((wrap64 (bt120.2.2.1 + a1)) : Int).toNat, bt120.2.1, wrap64 (bt120.2.2.1 + a1), bt120.2.2.2)) else (none)) else (none)) else (none))))) = some (r1, r2, r3, r4) := by rw [if_pos rfl] at H; exact H
    clear H
    have H := H1
    clear H1
    by_cases c5 : a1 < 0
    · rw [if_pos c5] at H
      have c5b0 : decide (a1 < 0) = true := decide_eq_true c5
      clear c5
      simp only [Option.some.injEq, Prod.mk.injEq] at H
      obtain ⟨rfl, rfl, rfl, rfl⟩ := H
      go_enter Try.func183, Try.ntmps183
      go_wp2_with (first | (go_at_call 182; (with_reducible refine (bits_Reader_good.calls g s0_0 s0_1 s0_2 true t117 t118 t119 w0 _ ?side1 ?side2 A3.out).mono ?_); (case side1 => repeat (first | (with_reducible first | exact HI0.out | apply IsS225.alloc | apply IsS225.drewN | apply IsS225.drew | apply IsS225.set_0 | apply IsS225.set_1 | apply IsS225.set_2) | exact HI0.out)); (case side2 => repeat (first | (with_reducible first | exact HB.out | apply below_alloc | apply pw_below_drewN | apply below_drew1 | refine below_set ?_ (IsS225.ge HI0.out)) | exact HB.out)); rintro e w6 ⟨rfl, hi, hb, hk⟩; have n0_ := Aside0.mk (KeepBut.trans (by repeat (first | (with_reducible first | exact HK.out | apply KeepBut.set_ | apply keep_drewN | apply keep_drew | apply keep_alloc) | exact HK.out)) hk (.inl rfl)); have n1_ := Aside0.mk (hb); have n2_ := Aside0.mk (hi); clear HK; clear HB; clear HI0; have HK := n0_; have HB := n1_; have HI0 := n2_; clear n0_ n1_ n2_; (try clear hb); (try clear hb2); (try clear hk); (try clear hi); obtain ⟨HGz7, hgz7⟩ := HI0.out; have hcz7_0 := cellS225_0 HGz7; have hcz7_1 := cellS225_1 HGz7; have hcz7_2 := cellS225_2 HGz7; have hfz7_0 := blk_frozen HGz7 0; have hfz7_1 := blk_frozen HGz7 1; have hfz7_2 := blk_frozen HGz7 2; clear HGz7 hgz7))
      repeat (go_quiet (first | (go_at_call 182; (with_reducible refine (bits_Reader_good.calls g s0_0 s0_1 s0_2 true t117 t118 t119 w0 _ ?side1 ?side2 A3.out).mono ?_); (case side1 => repeat (first | (with_reducible first | exact HI0.out | apply IsS225.alloc | apply IsS225.drewN | apply IsS225.drew | apply IsS225.set_0 | apply IsS225.set_1 | apply IsS225.set_2) | exact HI0.out)); (case side2 => repeat (first | (with_reducible first | exact HB.out | apply below_alloc | apply pw_below_drewN | apply below_drew1 | refine below_set ?_ (IsS225.ge HI0.out)) | exact HB.out)); rintro e w6 ⟨rfl, hi, hb, hk⟩; have n0_ := Aside0.mk (KeepBut.trans (by repeat (first | (with_reducible first | exact HK.out | apply KeepBut.set_ | apply keep_drewN | apply keep_drew | apply keep_alloc) | exact HK.out)) hk (.inl rfl)); have n1_ := Aside0.mk (hb); have n2_ := Aside0.mk (hi); clear HK; clear HB; clear HI0; have HK := n0_; have HB := n1_; have HI0 := n2_; clear n0_ n1_ n2_; (try clear hb); (try clear hb2); (try clear hk); (try clear hi); obtain ⟨HGz7, hgz7⟩ := HI0.out; have hcz7_0 := cellS225_0 HGz7; have hcz7_1 := cellS225_1 HGz7; have hcz7_2 := cellS225_2 HGz7; have hfz7_0 := blk_frozen HGz7 0; have hfz7_1 := blk_frozen HGz7 1; have hfz7_2 := blk_frozen HGz7 2; clear HGz7 hgz7)); try go_wp2_with (first | (go_at_call 182; (with_reducible refine (bits_Reader_good.calls g s0_0 s0_1 s0_2 true t117 t118 t119 w0 _ ?side1 ?side2 A3.out).mono ?_); (case side1 => repeat (first | (with_reducible first | exact HI0.out | apply IsS225.alloc | apply IsS225.drewN | apply IsS225.drew | apply IsS225.set_0 | apply IsS225.set_1 | apply IsS225.set_2) | exact HI0.out)); (case side2 => repeat (first | (with_reducible first | exact HB.out | apply below_alloc | apply pw_below_drewN | apply below_drew1 | refine below_set ?_ (IsS225.ge HI0.out)) | exact HB.out)); rintro e w6 ⟨rfl, hi, hb, hk⟩; have n0_ := Aside0.mk (KeepBut.trans (by repeat (first | (with_reducible first | exact HK.out | apply KeepBut.set_ | apply keep_drewN | apply keep_drew | apply keep_alloc) | exact HK.out)) hk (.inl rfl)); have n1_ := Aside0.mk (hb); have n2_ := Aside0.mk (hi); clear HK; clear HB; clear HI0; have HK := n0_; have HB := n1_; have HI0 := n2_; clear n0_ n1_ n2_; (try clear hb); (try clear hb2); (try clear hk); (try clear hi); obtain ⟨HGz7, hgz7⟩ := HI0.out; have hcz7_0 := cellS225_0 HGz7; have hcz7_1 := cellS225_1 HGz7; have hcz7_2 := cellS225_2 HGz7; have hfz7_0 := blk_frozen HGz7 0; have hfz7_1 := blk_frozen HGz7 1; have hfz7_2 := blk_frozen HGz7 2; clear HGz7 hgz7)))
      go_ret
      exact ⟨by first | rfl | (simp [errW_none, errW_some] <;> rfl) | (simp [*, errW_none, errW_some] <;> rfl), by repeat (first | (with_reducible first | exact HI0.out | apply IsS225.alloc | apply IsS225.drewN | apply IsS225.drew | apply IsS225.set_0 | apply IsS225.set_1 | apply IsS225.set_2) | exact HI0.out), by repeat (first | (with_reducible first | exact HB.out | apply below_alloc | apply pw_below_drewN | apply below_drew1 | refine below_set ?_ (IsS225.ge HI0.out)) | exact HB.out), by repeat (first | (with_reducible first | exact HK.out | apply KeepBut.set_ | apply keep_drewN | apply keep_drew | apply keep_alloc) | exact HK.out)⟩
    · rw [if_neg c5] at H
      have c5b0 : decide (a1 < 0) = false := decide_eq_false c5
      clear c5
      replace H := Option.bind_eq_some_iff.mp H
      obtain ⟨⟨t120, t121, t122, t123⟩, A80, H⟩ := H
      replace H : (if t120 < a1 then (some ((⟨#[]⟩ : ByteArray), t121, t122, 8)) else (if 0 ≤ (wrap64 ((wrap64 (t122 + a1)) - a1)) then (if (wrap64 ((wrap64 (t122 + a1)) - a1)) ≤ (wrap64 (t122 + a1)) then (if (wrap64 (t122 + a1)) ≤ (t121.size : Int) then (some (t121.extract ((wrap64 ((wrap64 (t122 + a1)) - a1)) : Int).toNat ((wrap64 (t122 + a1)) : Int).toNat, t121, wrap64 (t122 + a1), t123)) else (none)) else (none)) else (none))) = some (r1, r2, r3, r4) := H
      have A8 := Aside0.mk A80
      clear A80
      by_cases c9 : t120 < a1
      · rw [if_pos c9] at H
        have c9b0 : decide (t120 < a1) = true := decide_eq_true c9
        clear c9
        simp only [Option.some.injEq, Prod.mk.injEq] at H
        obtain ⟨rfl, rfl, rfl, rfl⟩ := H
        go_enter Try.func183, Try.ntmps183
        go_wp2_with (first | (go_at_call 182; (with_reducible refine (bits_Reader_good.calls g s0_0 s0_1 s0_2 true t117 t118 t119 w0 _ ?side1 ?side2 A3.out).mono ?_); (case side1 => repeat (first | (with_reducible first | exact HI0.out | apply IsS225.alloc | apply IsS225.drewN | apply IsS225.drew | apply IsS225.set_0 | apply IsS225.set_1 | apply IsS225.set_2) | exact HI0.out)); (case side2 => repeat (first | (with_reducible first | exact HB.out | apply below_alloc | apply pw_below_drewN | apply below_drew1 | refine below_set ?_ (IsS225.ge HI0.out)) | exact HB.out)); rintro e w10 ⟨rfl, hi, hb, hk⟩; have n0_ := Aside0.mk (KeepBut.trans (by repeat (first | (with_reducible first | exact HK.out | apply KeepBut.set_ | apply keep_drewN | apply keep_drew | apply keep_alloc) | exact HK.out)) hk (.inl rfl)); have n1_ := Aside0.mk (hb); have n2_ := Aside0.mk (hi); clear HK; clear HB; clear HI0; have HK := n0_; have HB := n1_; have HI0 := n2_; clear n0_ n1_ n2_; (try clear hb); (try clear hb2); (try clear hk); (try clear hi)) | (go_at_call 181; (with_reducible refine (bits_Reader_Left.calls g t117 t118 t119 t120 t121 t122 t123 w0 _ ?side1 ?side2 A8.out).mono ?_); (case side1 => repeat (first | (with_reducible first | exact HI0.out | apply IsS225.alloc | apply IsS225.drewN | apply IsS225.drew | apply IsS225.set_0 | apply IsS225.set_1 | apply IsS225.set_2) | exact HI0.out)); (case side2 => repeat (first | (with_reducible first | exact HB.out | apply below_alloc | apply pw_below_drewN | apply below_drew1 | refine below_set ?_ (IsS225.ge HI0.out)) | exact HB.out)); rintro e w11 ⟨rfl, hi, hb, hk⟩; have n0_ := Aside0.mk (KeepBut.trans (by repeat (first | (with_reducible first | exact HK.out | apply KeepBut.set_ | apply keep_drewN | apply keep_drew | apply keep_alloc) | exact HK.out)) hk (.inl rfl)); have n1_ := Aside0.mk (hb); have n2_ := Aside0.mk (hi); clear HK; clear HB; clear HI0; have HK := n0_; have HB := n1_; have HI0 := n2_; clear n0_ n1_ n2_; (try clear hb); (try clear hb2); (try clear hk); (try clear hi); obtain ⟨HGz12, hgz12⟩ := HI0.out; have hcz12_0 := cellS225_0 HGz12; have hcz12_1 := cellS225_1 HGz12; have hcz12_2 := cellS225_2 HGz12; have hfz12_0 := blk_frozen HGz12 0; have hfz12_1 := blk_frozen HGz12 1; have hfz12_2 := blk_frozen HGz12 2; clear HGz12 hgz12))
        repeat (go_quiet (first | (go_at_call 182; (with_reducible refine (bits_Reader_good.calls g s0_0 s0_1 s0_2 true t117 t118 t119 w0 _ ?side1 ?side2 A3.out).mono ?_); (case side1 => repeat (first | (with_reducible first | exact HI0.out | apply IsS225.alloc | apply IsS225.drewN | apply IsS225.drew | apply IsS225.set_0 | apply IsS225.set_1 | apply IsS225.set_2) | exact HI0.out)); (case side2 => repeat (first | (with_reducible first | exact HB.out | apply below_alloc | apply pw_below_drewN | apply below_drew1 | refine below_set ?_ (IsS225.ge HI0.out)) | exact HB.out)); rintro e w10 ⟨rfl, hi, hb, hk⟩; have n0_ := Aside0.mk (KeepBut.trans (by repeat (first | (with_reducible first | exact HK.out | apply KeepBut.set_ | apply keep_drewN | apply keep_drew | apply keep_alloc) | exact HK.out)) hk (.inl rfl)); have n1_ := Aside0.mk (hb); have n2_ := Aside0.mk (hi); clear HK; clear HB; clear HI0; have HK := n0_; have HB := n1_; have HI0 := n2_; clear n0_ n1_ n2_; (try clear hb); (try clear hb2); (try clear hk); (try clear hi)) | (go_at_call 181; (with_reducible refine (bits_Reader_Left.calls g t117 t118 t119 t120 t121 t122 t123 w0 _ ?side1 ?side2 A8.out).mono ?_); (case side1 => repeat (first | (with_reducible first | exact HI0.out | apply IsS225.alloc | apply IsS225.drewN | apply IsS225.drew | apply IsS225.set_0 | apply IsS225.set_1 | apply IsS225.set_2) | exact HI0.out)); (case side2 => repeat (first | (with_reducible first | exact HB.out | apply below_alloc | apply pw_below_drewN | apply below_drew1 | refine below_set ?_ (IsS225.ge HI0.out)) | exact HB.out)); rintro e w11 ⟨rfl, hi, hb, hk⟩; have n0_ := Aside0.mk (KeepBut.trans (by repeat (first | (with_reducible first | exact HK.out | apply KeepBut.set_ | apply keep_drewN | apply keep_drew | apply keep_alloc) | exact HK.out)) hk (.inl rfl)); have n1_ := Aside0.mk (hb); have n2_ := Aside0.mk (hi); clear HK; clear HB; clear HI0; have HK := n0_; have HB := n1_; have HI0 := n2_; clear n0_ n1_ n2_; (try clear hb); (try clear hb2); (try clear hk); (try clear hi); obtain ⟨HGz12, hgz12⟩ := HI0.out; have hcz12_0 := cellS225_0 HGz12; have hcz12_1 := cellS225_1 HGz12; have hcz12_2 := cellS225_2 HGz12; have hfz12_0 := blk_frozen HGz12 0; have hfz12_1 := blk_frozen HGz12 1; have hfz12_2 := blk_frozen HGz12 2; clear HGz12 hgz12)); try go_wp2_with (first | (go_at_call 182; (with_reducible refine (bits_Reader_good.calls g s0_0 s0_1 s0_2 true t117 t118 t119 w0 _ ?side1 ?side2 A3.out).mono ?_); (case side1 => repeat (first | (with_reducible first | exact HI0.out | apply IsS225.alloc | apply IsS225.drewN | apply IsS225.drew | apply IsS225.set_0 | apply IsS225.set_1 | apply IsS225.set_2) | exact HI0.out)); (case side2 => repeat (first | (with_reducible first | exact HB.out | apply below_alloc | apply pw_below_drewN | apply below_drew1 | refine below_set ?_ (IsS225.ge HI0.out)) | exact HB.out)); rintro e w10 ⟨rfl, hi, hb, hk⟩; have n0_ := Aside0.mk (KeepBut.trans (by repeat (first | (with_reducible first | exact HK.out | apply KeepBut.set_ | apply keep_drewN | apply keep_drew | apply keep_alloc) | exact HK.out)) hk (.inl rfl)); have n1_ := Aside0.mk (hb); have n2_ := Aside0.mk (hi); clear HK; clear HB; clear HI0; have HK := n0_; have HB := n1_; have HI0 := n2_; clear n0_ n1_ n2_; (try clear hb); (try clear hb2); (try clear hk); (try clear hi)) | (go_at_call 181; (with_reducible refine (bits_Reader_Left.calls g t117 t118 t119 t120 t121 t122 t123 w0 _ ?side1 ?side2 A8.out).mono ?_); (case side1 => repeat (first | (with_reducible first | exact HI0.out | apply IsS225.alloc | apply IsS225.drewN | apply IsS225.drew | apply IsS225.set_0 | apply IsS225.set_1 | apply IsS225.set_2) | exact HI0.out)); (case side2 => repeat (first | (with_reducible first | exact HB.out | apply below_alloc | apply pw_below_drewN | apply below_drew1 | refine below_set ?_ (IsS225.ge HI0.out)) | exact HB.out)); rintro e w11 ⟨rfl, hi, hb, hk⟩; have n0_ := Aside0.mk (KeepBut.trans (by repeat (first | (with_reducible first | exact HK.out | apply KeepBut.set_ | apply keep_drewN | apply keep_drew | apply keep_alloc) | exact HK.out)) hk (.inl rfl)); have n1_ := Aside0.mk (hb); have n2_ := Aside0.mk (hi); clear HK; clear HB; clear HI0; have HK := n0_; have HB := n1_; have HI0 := n2_; clear n0_ n1_ n2_; (try clear hb); (try clear hb2); (try clear hk); (try clear hi); obtain ⟨HGz12, hgz12⟩ := HI0.out; have hcz12_0 := cellS225_0 HGz12; have hcz12_1 := cellS225_1 HGz12; have hcz12_2 := cellS225_2 HGz12; have hfz12_0 := blk_frozen HGz12 0; have hfz12_1 := blk_frozen HGz12 1; have hfz12_2 := blk_frozen HGz12 2; clear HGz12 hgz12)))
        go_ret
        exact ⟨by first | rfl | (simp [errW_none, errW_some] <;> rfl) | (simp [*, errW_none, errW_some] <;> rfl), by repeat (first | (with_reducible first | exact HI0.out | apply IsS225.alloc | apply IsS225.drewN | apply IsS225.drew | apply IsS225.set_0 | apply IsS225.set_1 | apply IsS225.set_2) | exact HI0.out), by repeat (first | (with_reducible first | exact HB.out | apply below_alloc | apply pw_below_drewN | apply below_drew1 | refine below_set ?_ (IsS225.ge HI0.out)) | exact HB.out), by repeat (first | (with_reducible first | exact HK.out | apply KeepBut.set_ | apply keep_drewN | apply keep_drew | apply keep_alloc) | exact HK.out)⟩
      · rw [if_neg c9] at H
        have c9b0 : decide (t120 < a1) = false := decide_eq_false c9
        clear c9
        obtain ⟨ji13, hji13⟩ : ∃ j_ : Int, (wrap64 ((wrap64 (t122 + a1)) - a1)) = j_ := ⟨_, rfl⟩
        replace H : (if 0 ≤ (ji13) then (if (ji13) ≤ (wrap64 (t122 + a1)) then (if (wrap64 (t122 + a1)) ≤ (t121.size : Int) then (some (t121.extract ((ji13) : Int).toNat ((wrap64 (t122 + a1)) : Int).toNat, t121, wrap64 (t122 + a1), t123)) else (none)) else (none)) else (none)) = some (r1, r2, r3, r4) := by first | (rw [hji13] at H; exact H) | (simp only [hji13] at H ⊢; exact H)
        (try rw [hji13] at A3)
        (try rw [hji13] at A8)
        have hji13w : (IntKind.i64.wrap ((wrap64 (t122 + a1)) - a1)) = ji13 := (i64_w _).trans hji13
        by_cases c14 : 0 ≤ (ji13)
        · rw [if_pos c14] at H
          have c14b0 := eq_true c14
          have c14b1 : decide (0 ≤ (ji13)) = true := decide_eq_true c14
          clear c14
          by_cases c15 : (ji13) ≤ (wrap64 (t122 + a1))
          · rw [if_pos c15] at H
            have c15b0 := eq_true c15
            have c15b1 : decide ((ji13) ≤ (wrap64 (t122 + a1))) = true := decide_eq_true c15
            by_cases c16 : (wrap64 (t122 + a1)) ≤ (t121.size : Int)
            · rw [if_pos c16] at H
              have c16b0 := eq_true c16
              have c16b1 : decide ((wrap64 (t122 + a1)) ≤ (t121.size : Int)) = true := decide_eq_true c16
              simp only [Option.some.injEq, Prod.mk.injEq] at H
              obtain ⟨rfl, rfl, rfl, rfl⟩ := H
              go_enter Try.func183, Try.ntmps183
              go_wp2_with (first | (go_at_call 182; (with_reducible refine (bits_Reader_good.calls g s0_0 s0_1 s0_2 true t117 t118 t119 w0 _ ?side1 ?side2 A3.out).mono ?_); (case side1 => repeat (first | (with_reducible first | exact HI0.out | apply IsS225.alloc | apply IsS225.drewN | apply IsS225.drew | apply IsS225.set_0 | apply IsS225.set_1 | apply IsS225.set_2) | exact HI0.out)); (case side2 => repeat (first | (with_reducible first | exact HB.out | apply below_alloc | apply pw_below_drewN | apply below_drew1 | refine below_set ?_ (IsS225.ge HI0.out)) | exact HB.out)); rintro e w17 ⟨rfl, hi, hb, hk⟩; have n0_ := Aside0.mk (KeepBut.trans (by repeat (first | (with_reducible first | exact HK.out | apply KeepBut.set_ | apply keep_drewN | apply keep_drew | apply keep_alloc) | exact HK.out)) hk (.inl rfl)); have n1_ := Aside0.mk (hb); have n2_ := Aside0.mk (hi); clear HK; clear HB; clear HI0; have HK := n0_; have HB := n1_; have HI0 := n2_; clear n0_ n1_ n2_; (try clear hb); (try clear hb2); (try clear hk); (try clear hi)) | (go_at_call 181; (with_reducible refine (bits_Reader_Left.calls g t117 t118 t119 t120 t121 t122 t123 w0 _ ?side1 ?side2 A8.out).mono ?_); (case side1 => repeat (first | (with_reducible first | exact HI0.out | apply IsS225.alloc | apply IsS225.drewN | apply IsS225.drew | apply IsS225.set_0 | apply IsS225.set_1 | apply IsS225.set_2) | exact HI0.out)); (case side2 => repeat (first | (with_reducible first | exact HB.out | apply below_alloc | apply pw_below_drewN | apply below_drew1 | refine below_set ?_ (IsS225.ge HI0.out)) | exact HB.out)); rintro e w18 ⟨rfl, hi, hb, hk⟩; have n0_ := Aside0.mk (KeepBut.trans (by repeat (first | (with_reducible first | exact HK.out | apply KeepBut.set_ | apply keep_drewN | apply keep_drew | apply keep_alloc) | exact HK.out)) hk (.inl rfl)); have n1_ := Aside0.mk (hb); have n2_ := Aside0.mk (hi); clear HK; clear HB; clear HI0; have HK := n0_; have HB := n1_; have HI0 := n2_; clear n0_ n1_ n2_; (try clear hb); (try clear hb2); (try clear hk); (try clear hi); obtain ⟨HGz19, hgz19⟩ := HI0.out; have hcz19_0 := cellS225_0 HGz19; have hcz19_1 := cellS225_1 HGz19; have hcz19_2 := cellS225_2 HGz19; have hfz19_0 := blk_frozen HGz19 0; have hfz19_1 := blk_frozen HGz19 1; have hfz19_2 := blk_frozen HGz19 2; clear HGz19 hgz19))
              repeat (go_quiet (first | (go_at_call 182; (with_reducible refine (bits_Reader_good.calls g s0_0 s0_1 s0_2 true t117 t118 t119 w0 _ ?side1 ?side2 A3.out).mono ?_); (case side1 => repeat (first | (with_reducible first | exact HI0.out | apply IsS225.alloc | apply IsS225.drewN | apply IsS225.drew | apply IsS225.set_0 | apply IsS225.set_1 | apply IsS225.set_2) | exact HI0.out)); (case side2 => repeat (first | (with_reducible first | exact HB.out | apply below_alloc | apply pw_below_drewN | apply below_drew1 | refine below_set ?_ (IsS225.ge HI0.out)) | exact HB.out)); rintro e w17 ⟨rfl, hi, hb, hk⟩; have n0_ := Aside0.mk (KeepBut.trans (by repeat (first | (with_reducible first | exact HK.out | apply KeepBut.set_ | apply keep_drewN | apply keep_drew | apply keep_alloc) | exact HK.out)) hk (.inl rfl)); have n1_ := Aside0.mk (hb); have n2_ := Aside0.mk (hi); clear HK; clear HB; clear HI0; have HK := n0_; have HB := n1_; have HI0 := n2_; clear n0_ n1_ n2_; (try clear hb); (try clear hb2); (try clear hk); (try clear hi)) | (go_at_call 181; (with_reducible refine (bits_Reader_Left.calls g t117 t118 t119 t120 t121 t122 t123 w0 _ ?side1 ?side2 A8.out).mono ?_); (case side1 => repeat (first | (with_reducible first | exact HI0.out | apply IsS225.alloc | apply IsS225.drewN | apply IsS225.drew | apply IsS225.set_0 | apply IsS225.set_1 | apply IsS225.set_2) | exact HI0.out)); (case side2 => repeat (first | (with_reducible first | exact HB.out | apply below_alloc | apply pw_below_drewN | apply below_drew1 | refine below_set ?_ (IsS225.ge HI0.out)) | exact HB.out)); rintro e w18 ⟨rfl, hi, hb, hk⟩; have n0_ := Aside0.mk (KeepBut.trans (by repeat (first | (with_reducible first | exact HK.out | apply KeepBut.set_ | apply keep_drewN | apply keep_drew | apply keep_alloc) | exact HK.out)) hk (.inl rfl)); have n1_ := Aside0.mk (hb); have n2_ := Aside0.mk (hi); clear HK; clear HB; clear HI0; have HK := n0_; have HB := n1_; have HI0 := n2_; clear n0_ n1_ n2_; (try clear hb); (try clear hb2); (try clear hk); (try clear hi); obtain ⟨HGz19, hgz19⟩ := HI0.out; have hcz19_0 := cellS225_0 HGz19; have hcz19_1 := cellS225_1 HGz19; have hcz19_2 := cellS225_2 HGz19; have hfz19_0 := blk_frozen HGz19 0; have hfz19_1 := blk_frozen HGz19 1; have hfz19_2 := blk_frozen HGz19 2; clear HGz19 hgz19)); try go_wp2_with (first | (go_at_call 182; (with_reducible refine (bits_Reader_good.calls g s0_0 s0_1 s0_2 true t117 t118 t119 w0 _ ?side1 ?side2 A3.out).mono ?_); (case side1 => repeat (first | (with_reducible first | exact HI0.out | apply IsS225.alloc | apply IsS225.drewN | apply IsS225.drew | apply IsS225.set_0 | apply IsS225.set_1 | apply IsS225.set_2) | exact HI0.out)); (case side2 => repeat (first | (with_reducible first | exact HB.out | apply below_alloc | apply pw_below_drewN | apply below_drew1 | refine below_set ?_ (IsS225.ge HI0.out)) | exact HB.out)); rintro e w17 ⟨rfl, hi, hb, hk⟩; have n0_ := Aside0.mk (KeepBut.trans (by repeat (first | (with_reducible first | exact HK.out | apply KeepBut.set_ | apply keep_drewN | apply keep_drew | apply keep_alloc) | exact HK.out)) hk (.inl rfl)); have n1_ := Aside0.mk (hb); have n2_ := Aside0.mk (hi); clear HK; clear HB; clear HI0; have HK := n0_; have HB := n1_; have HI0 := n2_; clear n0_ n1_ n2_; (try clear hb); (try clear hb2); (try clear hk); (try clear hi)) | (go_at_call 181; (with_reducible refine (bits_Reader_Left.calls g t117 t118 t119 t120 t121 t122 t123 w0 _ ?side1 ?side2 A8.out).mono ?_); (case side1 => repeat (first | (with_reducible first | exact HI0.out | apply IsS225.alloc | apply IsS225.drewN | apply IsS225.drew | apply IsS225.set_0 | apply IsS225.set_1 | apply IsS225.set_2) | exact HI0.out)); (case side2 => repeat (first | (with_reducible first | exact HB.out | apply below_alloc | apply pw_below_drewN | apply below_drew1 | refine below_set ?_ (IsS225.ge HI0.out)) | exact HB.out)); rintro e w18 ⟨rfl, hi, hb, hk⟩; have n0_ := Aside0.mk (KeepBut.trans (by repeat (first | (with_reducible first | exact HK.out | apply KeepBut.set_ | apply keep_drewN | apply keep_drew | apply keep_alloc) | exact HK.out)) hk (.inl rfl)); have n1_ := Aside0.mk (hb); have n2_ := Aside0.mk (hi); clear HK; clear HB; clear HI0; have HK := n0_; have HB := n1_; have HI0 := n2_; clear n0_ n1_ n2_; (try clear hb); (try clear hb2); (try clear hk); (try clear hi); obtain ⟨HGz19, hgz19⟩ := HI0.out; have hcz19_0 := cellS225_0 HGz19; have hcz19_1 := cellS225_1 HGz19; have hcz19_2 := cellS225_2 HGz19; have hfz19_0 := blk_frozen HGz19 0; have hfz19_1 := blk_frozen HGz19 1; have hfz19_2 := blk_frozen HGz19 2; clear HGz19 hgz19)))
              go_ret
              exact ⟨by first | rfl | (simp [errW_none, errW_some] <;> rfl) | (simp only [← hji13]; first | rfl | (simp [errW_none, errW_some] <;> rfl)) | (simp [*, errW_none, errW_some] <;> rfl), by repeat (first | (with_reducible first | exact HI0.out | apply IsS225.alloc | apply IsS225.drewN | apply IsS225.drew | apply IsS225.set_0 | apply IsS225.set_1 | apply IsS225.set_2) | exact HI0.out), by repeat (first | (with_reducible first | exact HB.out | apply below_alloc | apply pw_below_drewN | apply below_drew1 | refine below_set ?_ (IsS225.ge HI0.out)) | exact HB.out), by repeat (first | (with_reducible first | exact HK.out | apply KeepBut.set_ | apply keep_drewN | apply keep_drew | apply keep_alloc) | exact HK.out)⟩
            · rw [if_neg c16] at H
              exact absurd H (by simp)
          · rw [if_neg c15] at H
            exact absurd H (by simp)
        · rw [if_neg c14] at H
          exact absurd H (by simp)
  · replace c4 := Bool.eq_false_iff.mpr c4
    subst c4
    have H1 : (some ((⟨#[]⟩ : ByteArray), t117, t118, t119)) = some (r1, r2, r3, r4) := by rw [if_neg (show ¬ (false = true) by decide)] at H; exact H
    clear H
    have H := H1
    clear H1
    simp only [Option.some.injEq, Prod.mk.injEq] at H
    obtain ⟨rfl, rfl, rfl, rfl⟩ := H
    go_enter Try.func183, Try.ntmps183
    go_wp2_with (first | (go_at_call 182; (with_reducible refine (bits_Reader_good.calls g s0_0 s0_1 s0_2 false t117 t118 t119 w0 _ ?side1 ?side2 A3.out).mono ?_); (case side1 => repeat (first | (with_reducible first | exact HI0.out | apply IsS225.alloc | apply IsS225.drewN | apply IsS225.drew | apply IsS225.set_0 | apply IsS225.set_1 | apply IsS225.set_2) | exact HI0.out)); (case side2 => repeat (first | (with_reducible first | exact HB.out | apply below_alloc | apply pw_below_drewN | apply below_drew1 | refine below_set ?_ (IsS225.ge HI0.out)) | exact HB.out)); rintro e w20 ⟨rfl, hi, hb, hk⟩; have n0_ := Aside0.mk (KeepBut.trans (by repeat (first | (with_reducible first | exact HK.out | apply KeepBut.set_ | apply keep_drewN | apply keep_drew | apply keep_alloc) | exact HK.out)) hk (.inl rfl)); have n1_ := Aside0.mk (hb); have n2_ := Aside0.mk (hi); clear HK; clear HB; clear HI0; have HK := n0_; have HB := n1_; have HI0 := n2_; clear n0_ n1_ n2_; (try clear hb); (try clear hb2); (try clear hk); (try clear hi)))
    repeat (go_quiet (first | (go_at_call 182; (with_reducible refine (bits_Reader_good.calls g s0_0 s0_1 s0_2 false t117 t118 t119 w0 _ ?side1 ?side2 A3.out).mono ?_); (case side1 => repeat (first | (with_reducible first | exact HI0.out | apply IsS225.alloc | apply IsS225.drewN | apply IsS225.drew | apply IsS225.set_0 | apply IsS225.set_1 | apply IsS225.set_2) | exact HI0.out)); (case side2 => repeat (first | (with_reducible first | exact HB.out | apply below_alloc | apply pw_below_drewN | apply below_drew1 | refine below_set ?_ (IsS225.ge HI0.out)) | exact HB.out)); rintro e w20 ⟨rfl, hi, hb, hk⟩; have n0_ := Aside0.mk (KeepBut.trans (by repeat (first | (with_reducible first | exact HK.out | apply KeepBut.set_ | apply keep_drewN | apply keep_drew | apply keep_alloc) | exact HK.out)) hk (.inl rfl)); have n1_ := Aside0.mk (hb); have n2_ := Aside0.mk (hi); clear HK; clear HB; clear HI0; have HK := n0_; have HB := n1_; have HI0 := n2_; clear n0_ n1_ n2_; (try clear hb); (try clear hb2); (try clear hk); (try clear hi))); try go_wp2_with (first | (go_at_call 182; (with_reducible refine (bits_Reader_good.calls g s0_0 s0_1 s0_2 false t117 t118 t119 w0 _ ?side1 ?side2 A3.out).mono ?_); (case side1 => repeat (first | (with_reducible first | exact HI0.out | apply IsS225.alloc | apply IsS225.drewN | apply IsS225.drew | apply IsS225.set_0 | apply IsS225.set_1 | apply IsS225.set_2) | exact HI0.out)); (case side2 => repeat (first | (with_reducible first | exact HB.out | apply below_alloc | apply pw_below_drewN | apply below_drew1 | refine below_set ?_ (IsS225.ge HI0.out)) | exact HB.out)); rintro e w20 ⟨rfl, hi, hb, hk⟩; have n0_ := Aside0.mk (KeepBut.trans (by repeat (first | (with_reducible first | exact HK.out | apply KeepBut.set_ | apply keep_drewN | apply keep_drew | apply keep_alloc) | exact HK.out)) hk (.inl rfl)); have n1_ := Aside0.mk (hb); have n2_ := Aside0.mk (hi); clear HK; clear HB; clear HI0; have HK := n0_; have HB := n1_; have HI0 := n2_; clear n0_ n1_ n2_; (try clear hb); (try clear hb2); (try clear hk); (try clear hi))))
    go_ret
    exact ⟨by first | rfl | (simp [errW_none, errW_some] <;> rfl) | (simp [*, errW_none, errW_some] <;> rfl), by repeat (first | (with_reducible first | exact HI0.out | apply IsS225.alloc | apply IsS225.drewN | apply IsS225.drew | apply IsS225.set_0 | apply IsS225.set_1 | apply IsS225.set_2) | exact HI0.out), by repeat (first | (with_reducible first | exact HB.out | apply below_alloc | apply pw_below_drewN | apply below_drew1 | refine below_set ?_ (IsS225.ge HI0.out)) | exact HB.out), by repeat (first | (with_reducible first | exact HK.out | apply KeepBut.set_ | apply keep_drewN | apply keep_drew | apply keep_alloc) | exact HK.out)⟩

/-! ### bits_Reader_Text: function 145 -/
def bits_Reader_Text.j0 : Nat → Int → Int → Bool → ByteArray → Int → Int → Option (ByteArray × ByteArray × Int × Int)
  | 0, _, _, _, _, _, _ => none
  | k + 1, x5, x6, x30, x1000, x1001, x1002 => if x30 = true then (if 8 = 0 then ((bits_Reader_Raw.f x1000 x5 8 (wrap64 (x6))).bind fun bt136 => (some (bt136.1, bt136.2.1, bt136.2.2.1, bt136.2.2.2))) else (some ((⟨#[]⟩ : ByteArray), x1000, x5, 8))) else (if x1002 = 0 then ((bits_Reader_Raw.f x1000 x1001 x1002 (wrap64 (x6))).bind fun bt140 => (some (bt140.1, bt140.2.1, bt140.2.2.1, bt140.2.2.2))) else (some ((⟨#[]⟩ : ByteArray), x1000, x1001, x1002)))
def bits_Reader_Text.f (k : Nat) (s0_0 : ByteArray) (s0_1 : Int) (s0_2 : Int) (a1 : Int) : Option (ByteArray × ByteArray × Int × Int) := (bits_Reader_good.f s0_0 s0_1 s0_2).bind fun bt124 => (if bt124.1 = true then ((bits_Reader_Varint.f k bt124.2.1 bt124.2.2.1 bt124.2.2.2 (IntKind.u64.wrap (mx a1 0))).bind fun bt128 => (if bt128.2.2.2 = 0 then ((bits_Reader_Left.f bt128.2.1 bt128.2.2.1 bt128.2.2.2).bind fun bt132 => (bits_Reader_Text.j0 k bt124.2.2.1 bt128.1 (decide ((IntKind.u64.wrap (bt132.1)) < bt128.1)) bt132.2.1 bt132.2.2.1 bt132.2.2.2)) else (bits_Reader_Text.j0 k bt124.2.2.1 bt128.1 false bt128.2.1 bt128.2.2.1 bt128.2.2.2))) else (some ((⟨#[]⟩ : ByteArray), bt124.2.1, bt124.2.2.1, bt124.2.2.2)))
theorem bits_Reader_Text.mono_l : ∀ k, (∀ y0 y1 y2 y3 y4 y5, LeO (bits_Reader_Text.j0 k y0 y1 y2 y3 y4 y5) (bits_Reader_Text.j0 (k + 1) y0 y1 y2 y3 y4 y5))
  | 0 => fun _ _ _ _ _ _ r h => by simp [bits_Reader_Text.j0] at h
  | k + 1 => by
    have ih0 := bits_Reader_Text.mono_l k
    · intro y0 y1 y2 y3 y4 y5
      unfold bits_Reader_Text.j0
      repeat' first
      | (with_reducible exact ih0 _ _ _ _ _ _)
      | (with_reducible exact bits_Reader_Varint.mono _ _ _ _ _)
      | (with_reducible exact LeO.refl _)
      | (with_reducible exact LeO.none _)
      | (with_reducible refine LeO.ite ?_ ?_)
      | (with_reducible refine LeO.bind ?_ (fun _ => ?_))
      | exact ih0 _ _ _ _ _ _
      | exact bits_Reader_Varint.mono _ _ _ _ _
      | exact LeO.none _
      | refine LeO.ite ?_ ?_
      | refine LeO.bind ?_ (fun _ => ?_)
theorem bits_Reader_Text.mono : ∀ a0 a1 a2 a3 k, LeO (bits_Reader_Text.f k a0 a1 a2 a3) (bits_Reader_Text.f (k + 1) a0 a1 a2 a3) := by
  intro a0 a1 a2 a3 k
  have ih0 := bits_Reader_Text.mono_l k
  unfold bits_Reader_Text.f
  repeat' first
      | (with_reducible exact ih0 _ _ _ _ _ _)
      | (with_reducible exact bits_Reader_Varint.mono _ _ _ _ _)
      | (with_reducible exact LeO.refl _)
      | (with_reducible exact LeO.none _)
      | (with_reducible refine LeO.ite ?_ ?_)
      | (with_reducible refine LeO.bind ?_ (fun _ => ?_))
      | exact ih0 _ _ _ _ _ _
      | exact bits_Reader_Varint.mono _ _ _ _ _
      | exact LeO.none _
      | refine LeO.ite ?_ ?_
      | refine LeO.bind ?_ (fun _ => ?_)
set_option maxHeartbeats 8000000 in
set_option maxRecDepth 100000 in
theorem bits_Reader_Text.calls (k : Nat) (g : Nat) (s0_0 : ByteArray) (s0_1 : Int) (s0_2 : Int) (a1 : Int) (r1 : ByteArray) (r2 : ByteArray) (r3 : Int) (r4 : Int) (w0 w : World) (hI : IsS225 w0 w g s0_0 s0_1 s0_2) (hB : Below w0.heap.size w0 w) (h : bits_Reader_Text.f k s0_0 s0_1 s0_2 a1 = some (r1, r2, r3, r4)) :
    Calls Try.prog 145 #[.pointer (some ⟨g, 0, none⟩), .int .i64 a1] w fun e w' => e = .returned (.string r1) ∧ IsS225 w0 w' g r2 r3 r4 ∧ Below w0.heap.size w0 w' ∧ KeepBut w w' g none := by
  have HI0 := Aside0.mk hI
  have HK := Aside0.mk (KeepBut.refl w g none)
  have HL := Aside0.mk hB.size
  clear hI
  have HW0 := Aside0.mk hB.size
  have HB := Aside0.mk hB
  clear hB
  have H : ((bits_Reader_good.f s0_0 s0_1 s0_2).bind fun bt124 => (if bt124.1 = true then ((bits_Reader_Varint.f k bt124.2.1 bt124.2.2.1 bt124.2.2.2 (IntKind.u64.wrap (mx a1 0))).bind fun bt128 => (if bt128.2.2.2 = 0 then ((bits_Reader_Left.f bt128.2.1 bt128.2.2.1 bt128.2.2.2).bind fun bt132 => (bits_Reader_Text.j0 k bt124.2.2.1 bt128.1 (decide ((IntKind.u64.wrap (bt132.1)) < bt128.1)) bt132.2.1 bt132.2.2.1 bt132.2.2.2)) else (bits_Reader_Text.j0 k bt124.2.2.1 bt128.1 false bt128.2.1 bt128.2.2.1 bt128.2.2.2))) else (some ((⟨#[]⟩ : ByteArray), bt124.2.1, bt124.2.2.1, bt124.2.2.2)))) = some (r1, r2, r3, r4) := h
  clear h
  replace H := Option.bind_eq_some_iff.mp H
  obtain ⟨⟨t124, t125, t126, t127⟩, A30, H⟩ := H
  replace H : (if t124 = true then ((bits_Reader_Varint.f k t125 t126 t127 (IntKind.u64.wrap (mx a1 0))).bind fun bt128 => (if bt128.2.2.2 = 0 then ((bits_Reader_Left.f bt128.2.1 bt128.2.2.1 bt128.2.2.2).bind fun bt132 => (bits_Reader_Text.j0 k t126 bt128.1 (decide ((IntKind.u64.wrap (bt132.1)) < bt128.1)) bt132.2.1 bt132.2.2.1 bt132.2.2.2)) else (bits_Reader_Text.j0 k t126 bt128.1 false bt128.2.1 bt128.2.2.1 bt128.2.2.2))) else (some ((⟨#[]⟩ : ByteArray), t125, t126, t127))) = some (r1, r2, r3, r4) := H
  have A3 := Aside0.mk A30
  clear A30
  by_cases c4 : t124 = true
  · subst c4
    have H1 : ((bits_Reader_Varint.f k t125 t126 t127 (IntKind.u64.wrap (mx a1 0))).bind fun bt128 => (if bt128.2.2.2 = 0 then ((bits_Reader_Left.f bt128.2.1 bt128.2.2.1 bt128.2.2.2).bind fun bt132 => (bits_Reader_Text.j0 k t126 bt128.1 (decide ((IntKind.u64.wrap (bt132.1)) < bt128.1)) bt132.2.1 bt132.2.2.1 bt132.2.2.2)) else (bits_Reader_Text.j0 k t126 bt128.1 false bt128.2.1 bt128.2.2.1 bt128.2.2.2))) = some (r1, r2, r3, r4) := by rw [if_pos rfl] at H; exact H
    clear H
    have H := H1
    clear H1
    obtain ⟨ji5, hji5⟩ : ∃ j_ : Int, (mx a1 0) = j_ := ⟨_, rfl⟩
    replace H : ((bits_Reader_Varint.f k t125 t126 t127 (IntKind.u64.wrap (ji5))).bind fun bt128 => (if bt128.2.2.2 = 0 then ((bits_Reader_Left.f bt128.2.1 bt128.2.2.1 bt128.2.2.2).bind fun bt132 => (bits_Reader_Text.j0 k t126 bt128.1 (decide ((IntKind.u64.wrap (bt132.1)) < bt128.1)) bt132.2.1 bt132.2.2.1 bt132.2.2.2)) else (bits_Reader_Text.j0 k t126 bt128.1 false bt128.2.1 bt128.2.2.1 bt128.2.2.2))) = some (r1, r2, r3, r4) := by first | (rw [hji5] at H; exact H) | (simp only [hji5] at H ⊢; exact H)
    (try rw [hji5] at A3)
    (try (have hji5l : 0 ≤ ji5 := by (rw [← hji5]; unfold mx; (repeat' split) <;> omega)))
    (try (have hji5m : 0 ≤ ji5 := by omega))
    have hji5_ : (if a1 < 0 then 0 else a1) = ji5 := hji5
    replace H := Option.bind_eq_some_iff.mp H
    obtain ⟨⟨t128, t129, t130, t131⟩, A60, H⟩ := H
    replace H : (if t131 = 0 then ((bits_Reader_Left.f t129 t130 t131).bind fun bt132 => (bits_Reader_Text.j0 k t126 t128 (decide ((IntKind.u64.wrap (bt132.1)) < t128)) bt132.2.1 bt132.2.2.1 bt132.2.2.2)) else (bits_Reader_Text.j0 k t126 t128 false t129 t130 t131)) = some (r1, r2, r3, r4) := H
    have A6 := Aside0.mk A60
    clear A60
    have HC7 := Aside0.mk H
    clear H
    go_enter Try.func145, Try.ntmps145
    go_upto_region 5 with (first | ((with_reducible refine gate_callee (f := 182) rfl ?_); refine goesL_ (some 8) rfl rfl Try.func182 (by kernel_rfl) rfl #[.pointer (some ⟨g, 0, none⟩)] rfl (by (try simp only [List.map_toArray, List.map_cons, List.map_nil]); first | done | rfl | (simp only [List.length_drop, List.length_take]; rfl)) ?_; (with_reducible refine (bits_Reader_good.calls g s0_0 s0_1 s0_2 true t125 t126 t127 w0 _ ?side1 ?side2 A3.out).mono ?_); (case side1 => repeat (first | (with_reducible first | exact HI0.out | apply IsS225.alloc | apply IsS225.drewN | apply IsS225.drew | apply IsS225.set_0 | apply IsS225.set_1 | apply IsS225.set_2) | exact HI0.out)); (case side2 => repeat (first | (with_reducible first | exact HB.out | apply below_alloc | apply pw_below_drewN | apply below_drew1 | refine below_set ?_ (IsS225.ge HI0.out)) | exact HB.out)); rintro e w8 ⟨rfl, hi, hb, hk⟩; refine ⟨_, rfl, ?_⟩; have n0_ := Aside0.mk (KeepBut.trans (by repeat (first | (with_reducible first | exact HK.out | apply KeepBut.set_ | apply keep_drewN | apply keep_drew | apply keep_alloc) | exact HK.out)) hk (.inl rfl)); have n1_ := Aside0.mk (hb); have n2_ := Aside0.mk (hi); clear HK; clear HB; clear HI0; have HK := n0_; have HB := n1_; have HI0 := n2_; clear n0_ n1_ n2_; (try clear hb); (try clear hb2); (try clear hk); (try clear hi); obtain ⟨HGz9, hgz9⟩ := HI0.out; have hcz9_0 := cellS225_0 HGz9; have hcz9_1 := cellS225_1 HGz9; have hcz9_2 := cellS225_2 HGz9; have hfz9_0 := blk_frozen HGz9 0; have hfz9_1 := blk_frozen HGz9 1; have hfz9_2 := blk_frozen HGz9 2; clear HGz9 hgz9) | ((with_reducible refine gate_callee (f := 146) rfl ?_); refine goesL_ (some 18) rfl rfl Try.func146 (by kernel_rfl) rfl #[.pointer (some ⟨g, 0, none⟩), .int .u64 (IntKind.u64.wrap (ji5))] rfl (by (try simp only [List.map_toArray, List.map_cons, List.map_nil]); first | done | (simp only [hji5]; rfl) | rfl | (simp only [List.length_drop, List.length_take]; rfl)) ?_; (with_reducible refine (bits_Reader_Varint.calls k g t125 t126 t127 (IntKind.u64.wrap (ji5)) t128 t129 t130 t131 w0 _ ?side1 ?side2 A6.out).mono ?_); (case side1 => repeat (first | (with_reducible first | exact HI0.out | apply IsS225.alloc | apply IsS225.drewN | apply IsS225.drew | apply IsS225.set_0 | apply IsS225.set_1 | apply IsS225.set_2) | exact HI0.out)); (case side2 => repeat (first | (with_reducible first | exact HB.out | apply below_alloc | apply pw_below_drewN | apply below_drew1 | refine below_set ?_ (IsS225.ge HI0.out)) | exact HB.out)); rintro e w10 ⟨rfl, hi, hb, hk⟩; refine ⟨_, rfl, ?_⟩; have n0_ := Aside0.mk (KeepBut.trans (by repeat (first | (with_reducible first | exact HK.out | apply KeepBut.set_ | apply keep_drewN | apply keep_drew | apply keep_alloc) | exact HK.out)) hk (.inl rfl)); have n1_ := Aside0.mk (hb); have n2_ := Aside0.mk (hi); clear HK; clear HB; clear HI0; have HK := n0_; have HB := n1_; have HI0 := n2_; clear n0_ n1_ n2_; (try clear hb); (try clear hb2); (try clear hk); (try clear hi)))
    (try simp only [Act.put, List.setIfInBounds_toArray, List.set_cons_zero, List.set_cons_succ])
    go_cut [30] (fun v30 wc => ∃ (kq : Nat) (x30_6 : Bool) (x1000_6 : ByteArray) (x1001_6 : Int) (x1002_6 : Int), v30 = .bool x30_6 ∧ Aside0 (bits_Reader_Text.j0 kq t126 t128 x30_6 x1000_6 x1001_6 x1002_6 = some (r1, r2, r3, r4)) ∧ Aside0 (kq ≤ k) ∧ Aside0 (IsS225 w0 wc g x1000_6 x1001_6 x1002_6) ∧ Aside0 (KeepBut w wc g none) ∧ Aside0 (Below w0.heap.size w0 wc))
    case first =>
      have H := HC7.out
      clear HC7
      by_cases c11 : t131 = 0
      · rw [if_pos c11] at H
        have c11b0 : (t131 == 0) = true := beq_iff_eq.mpr c11
        have c11b1 : (t131 != 0) = false := bne_eq_false_iff_eq.mpr c11
        clear c11
        (first | rw [c11b0] | (simp only [i64_w, i32_w]; rw [c11b0]) | skip)
        replace H := Option.bind_eq_some_iff.mp H
        obtain ⟨⟨t132, t133, t134, t135⟩, A120, H⟩ := H
        replace H : (bits_Reader_Text.j0 k t126 t128 (decide ((IntKind.u64.wrap (t132)) < t128)) t133 t134 t135) = some (r1, r2, r3, r4) := H
        have A12 := Aside0.mk A120
        clear A120
        have H' := Aside0.mk H
        clear H
        obtain ⟨HGz13, hgz13⟩ := HI0.out
        have hcz13_0 := cellS225_0 HGz13
        have hcz13_1 := cellS225_1 HGz13
        have hcz13_2 := cellS225_2 HGz13
        have hfz13_0 := blk_frozen HGz13 0
        have hfz13_1 := blk_frozen HGz13 1
        have hfz13_2 := blk_frozen HGz13 2
        clear HGz13 hgz13
        go_wp2_with (first | (go_at_call 181; (with_reducible refine (bits_Reader_Left.calls g t129 t130 t131 t132 t133 t134 t135 w0 _ ?side1 ?side2 A12.out).mono ?_); (case side1 => repeat (first | (with_reducible first | exact HI0.out | apply IsS225.alloc | apply IsS225.drewN | apply IsS225.drew | apply IsS225.set_0 | apply IsS225.set_1 | apply IsS225.set_2) | exact HI0.out)); (case side2 => repeat (first | (with_reducible first | exact HB.out | apply below_alloc | apply pw_below_drewN | apply below_drew1 | refine below_set ?_ (IsS225.ge HI0.out)) | exact HB.out)); rintro e w14 ⟨rfl, hi, hb, hk⟩; have n0_ := Aside0.mk (KeepBut.trans (by repeat (first | (with_reducible first | exact HK.out | apply KeepBut.set_ | apply keep_drewN | apply keep_drew | apply keep_alloc) | exact HK.out)) hk (.inl rfl)); have n1_ := Aside0.mk (hb); have n2_ := Aside0.mk (hi); clear HK; clear HB; clear HI0; have HK := n0_; have HB := n1_; have HI0 := n2_; clear n0_ n1_ n2_; (try clear hb); (try clear hb2); (try clear hk); (try clear hi)))
        go_meet
        case rel => exact ⟨_, (decide ((IntKind.u64.wrap (t132)) < t128)), (t133), (t134), (t135), (by first | rfl | (simp; done) | (simp [*]; done)), H', ⟨by first | omega | exact Nat.le_refl _⟩, ⟨by repeat (first | (with_reducible first | exact HI0.out | apply IsS225.alloc | apply IsS225.drewN | apply IsS225.drew | apply IsS225.set_0 | apply IsS225.set_1 | apply IsS225.set_2) | exact HI0.out)⟩, ⟨by repeat (first | (with_reducible first | exact HK.out | apply KeepBut.set_ | apply keep_drewN | apply keep_drew | apply keep_alloc) | exact HK.out)⟩, ⟨by repeat (first | (with_reducible first | exact HB.out | apply below_alloc | apply pw_below_drewN | apply below_drew1 | refine below_set ?_ (IsS225.ge HI0.out)) | exact HB.out)⟩⟩
      · rw [if_neg c11] at H
        have c11b0 : (t131 == 0) = false := beq_eq_false_iff_ne.mpr c11
        have c11b1 : (t131 != 0) = true := bne_iff_ne.mpr c11
        (first | rw [c11b0] | (simp only [i64_w, i32_w]; rw [c11b0]) | skip)
        have H' := Aside0.mk H
        clear H
        obtain ⟨HGz15, hgz15⟩ := HI0.out
        have hcz15_0 := cellS225_0 HGz15
        have hcz15_1 := cellS225_1 HGz15
        have hcz15_2 := cellS225_2 HGz15
        have hfz15_0 := blk_frozen HGz15 0
        have hfz15_1 := blk_frozen HGz15 1
        have hfz15_2 := blk_frozen HGz15 2
        clear HGz15 hgz15
        go_wp2
        go_meet
        case rel => exact ⟨_, (false), (t129), (t130), (t131), (by first | rfl | (simp; done) | (simp [*]; done)), H', ⟨by first | omega | exact Nat.le_refl _⟩, ⟨by repeat (first | (with_reducible first | exact HI0.out | apply IsS225.alloc | apply IsS225.drewN | apply IsS225.drew | apply IsS225.set_0 | apply IsS225.set_1 | apply IsS225.set_2) | exact HI0.out)⟩, ⟨by repeat (first | (with_reducible first | exact HK.out | apply KeepBut.set_ | apply keep_drewN | apply keep_drew | apply keep_alloc) | exact HK.out)⟩, ⟨by repeat (first | (with_reducible first | exact HB.out | apply below_alloc | apply pw_below_drewN | apply below_drew1 | refine below_set ?_ (IsS225.ge HI0.out)) | exact HB.out)⟩⟩
    case rest =>
      clear HC7
      try clear c1
      try clear p2
      try clear c4
      try clear c11
      try clear c11b0
      try clear c11b1
      try clear c14
      try clear hcz13_0
      try clear hcz13_1
      try clear hcz13_2
      try clear hcz15_0
      try clear hcz15_1
      try clear hcz15_2
      try clear hcz9_0
      try clear hcz9_1
      try clear hcz9_2
      try clear hfz13_0
      try clear hfz13_1
      try clear hfz13_2
      try clear hfz15_0
      try clear hfz15_1
      try clear hfz15_2
      try clear hfz9_0
      try clear hfz9_1
      try clear hfz9_2
      obtain ⟨kq, x30_6, x1000_6, x1001_6, x1002_6, rfl, HA, HJ6, HI0, HK, HB⟩ := hcut
      cases kq with
      | zero => exact absurd HA.out (by simp [bits_Reader_Text.j0])
      | succ kj6 =>
        have H := HA.out
        clear HA
        simp only [bits_Reader_Text.j0] at H
        by_cases c16 : x30_6 = true
        · subst c16
          have H1 : (if 8 = 0 then ((bits_Reader_Raw.f x1000_6 t126 8 (wrap64 (t128))).bind fun bt136 => (some (bt136.1, bt136.2.1, bt136.2.2.1, bt136.2.2.2))) else (some ((⟨#[]⟩ : ByteArray), x1000_6, t126, 8))) = some (r1, r2, r3, r4) := by rw [if_pos rfl] at H; exact H
          clear H
          have H := H1
          clear H1
          by_cases c17 : 8 = 0
          · exact absurd c17 (by decide)
          · rw [if_neg c17] at H
            have c17b0 : (8 == 0) = false := beq_eq_false_iff_ne.mpr c17
            have c17b1 : (8 != 0) = true := bne_iff_ne.mpr c17
            simp only [Option.some.injEq, Prod.mk.injEq] at H
            obtain ⟨rfl, rfl, rfl, rfl⟩ := H
            obtain ⟨HGz21, hgz21⟩ := HI0.out
            have hcz21_0 := cellS225_0 HGz21
            have hcz21_1 := cellS225_1 HGz21
            have hcz21_2 := cellS225_2 HGz21
            have hfz21_0 := blk_frozen HGz21 0
            have hfz21_1 := blk_frozen HGz21 1
            have hfz21_2 := blk_frozen HGz21 2
            clear HGz21 hgz21
            go_wp2
            go_ret
            exact ⟨by first | rfl | (simp [errW_none, errW_some] <;> rfl) | (simp only [← hji5]; first | rfl | (simp [errW_none, errW_some] <;> rfl)) | (simp [*, errW_none, errW_some] <;> rfl), by repeat (first | (with_reducible first | exact HI0.out | apply IsS225.alloc | apply IsS225.drewN | apply IsS225.drew | apply IsS225.set_0 | apply IsS225.set_1 | apply IsS225.set_2) | exact HI0.out), by repeat (first | (with_reducible first | exact HB.out | apply below_alloc | apply pw_below_drewN | apply below_drew1 | refine below_set ?_ (IsS225.ge HI0.out)) | exact HB.out), by repeat (first | (with_reducible first | exact HK.out | apply KeepBut.set_ | apply keep_drewN | apply keep_drew | apply keep_alloc) | exact HK.out)⟩
        · replace c16 := Bool.eq_false_iff.mpr c16
          subst c16
          have H1 : (if x1002_6 = 0 then ((bits_Reader_Raw.f x1000_6 x1001_6 x1002_6 (wrap64 (t128))).bind fun bt140 => (some (bt140.1, bt140.2.1, bt140.2.2.1, bt140.2.2.2))) else (some ((⟨#[]⟩ : ByteArray), x1000_6, x1001_6, x1002_6))) = some (r1, r2, r3, r4) := by rw [if_neg (show ¬ (false = true) by decide)] at H; exact H
          clear H
          have H := H1
          clear H1
          by_cases c22 : x1002_6 = 0
          · rw [if_pos c22] at H
            have c22b0 : (x1002_6 == 0) = true := beq_iff_eq.mpr c22
            have c22b1 : (x1002_6 != 0) = false := bne_eq_false_iff_eq.mpr c22
            clear c22
            replace H := Option.bind_eq_some_iff.mp H
            obtain ⟨⟨t140, t141, t142, t143⟩, A230, H⟩ := H
            replace H : (some (t140, t141, t142, t143)) = some (r1, r2, r3, r4) := H
            have A23 := Aside0.mk A230
            clear A230
            simp only [Option.some.injEq, Prod.mk.injEq] at H
            obtain ⟨rfl, rfl, rfl, rfl⟩ := H
            obtain ⟨HGz24, hgz24⟩ := HI0.out
            have hcz24_0 := cellS225_0 HGz24
            have hcz24_1 := cellS225_1 HGz24
            have hcz24_2 := cellS225_2 HGz24
            have hfz24_0 := blk_frozen HGz24 0
            have hfz24_1 := blk_frozen HGz24 1
            have hfz24_2 := blk_frozen HGz24 2
            clear HGz24 hgz24
            go_wp2_with (first | ((with_reducible refine gate_callee (f := 183) rfl ?_); refine goesL_ (some 46) rfl rfl Try.func183 (by kernel_rfl) rfl #[.pointer (some ⟨g, 0, none⟩), .int .i64 (wrap64 (t128))] rfl (by (try simp only [List.map_toArray, List.map_cons, List.map_nil]); first | done | rfl | (simp only [List.length_drop, List.length_take]; rfl)) ?_; (with_reducible refine (bits_Reader_Raw.calls g x1000_6 x1001_6 x1002_6 (wrap64 (t128)) t140 t141 t142 t143 w0 _ ?side1 ?side2 A23.out).mono ?_); (case side1 => repeat (first | (with_reducible first | exact HI0.out | apply IsS225.alloc | apply IsS225.drewN | apply IsS225.drew | apply IsS225.set_0 | apply IsS225.set_1 | apply IsS225.set_2) | exact HI0.out)); (case side2 => repeat (first | (with_reducible first | exact HB.out | apply below_alloc | apply pw_below_drewN | apply below_drew1 | refine below_set ?_ (IsS225.ge HI0.out)) | exact HB.out)); rintro e w25 ⟨rfl, hi, hb, hk⟩; refine ⟨_, rfl, ?_⟩; have n0_ := Aside0.mk (KeepBut.trans (by repeat (first | (with_reducible first | exact HK.out | apply KeepBut.set_ | apply keep_drewN | apply keep_drew | apply keep_alloc) | exact HK.out)) hk (.inl rfl)); have n1_ := Aside0.mk (hb); have n2_ := Aside0.mk (hi); clear HK; clear HB; clear HI0; have HK := n0_; have HB := n1_; have HI0 := n2_; clear n0_ n1_ n2_; (try clear hb); (try clear hb2); (try clear hk); (try clear hi)))
            go_ret
            exact ⟨by first | rfl | (simp [errW_none, errW_some] <;> rfl) | (simp only [← hji5]; first | rfl | (simp [errW_none, errW_some] <;> rfl)) | (simp [*, errW_none, errW_some] <;> rfl), by repeat (first | (with_reducible first | exact HI0.out | apply IsS225.alloc | apply IsS225.drewN | apply IsS225.drew | apply IsS225.set_0 | apply IsS225.set_1 | apply IsS225.set_2) | exact HI0.out), by repeat (first | (with_reducible first | exact HB.out | apply below_alloc | apply pw_below_drewN | apply below_drew1 | refine below_set ?_ (IsS225.ge HI0.out)) | exact HB.out), by repeat (first | (with_reducible first | exact HK.out | apply KeepBut.set_ | apply keep_drewN | apply keep_drew | apply keep_alloc) | exact HK.out)⟩
          · rw [if_neg c22] at H
            have c22b0 : (x1002_6 == 0) = false := beq_eq_false_iff_ne.mpr c22
            have c22b1 : (x1002_6 != 0) = true := bne_iff_ne.mpr c22
            simp only [Option.some.injEq, Prod.mk.injEq] at H
            obtain ⟨rfl, rfl, rfl, rfl⟩ := H
            obtain ⟨HGz26, hgz26⟩ := HI0.out
            have hcz26_0 := cellS225_0 HGz26
            have hcz26_1 := cellS225_1 HGz26
            have hcz26_2 := cellS225_2 HGz26
            have hfz26_0 := blk_frozen HGz26 0
            have hfz26_1 := blk_frozen HGz26 1
            have hfz26_2 := blk_frozen HGz26 2
            clear HGz26 hgz26
            go_wp2
            go_ret
            exact ⟨by first | rfl | (simp [errW_none, errW_some] <;> rfl) | (simp only [← hji5]; first | rfl | (simp [errW_none, errW_some] <;> rfl)) | (simp [*, errW_none, errW_some] <;> rfl), by repeat (first | (with_reducible first | exact HI0.out | apply IsS225.alloc | apply IsS225.drewN | apply IsS225.drew | apply IsS225.set_0 | apply IsS225.set_1 | apply IsS225.set_2) | exact HI0.out), by repeat (first | (with_reducible first | exact HB.out | apply below_alloc | apply pw_below_drewN | apply below_drew1 | refine below_set ?_ (IsS225.ge HI0.out)) | exact HB.out), by repeat (first | (with_reducible first | exact HK.out | apply KeepBut.set_ | apply keep_drewN | apply keep_drew | apply keep_alloc) | exact HK.out)⟩
  · replace c4 := Bool.eq_false_iff.mpr c4
    subst c4
    have H1 : (some ((⟨#[]⟩ : ByteArray), t125, t126, t127)) = some (r1, r2, r3, r4) := by rw [if_neg (show ¬ (false = true) by decide)] at H; exact H
    clear H
    have H := H1
    clear H1
    simp only [Option.some.injEq, Prod.mk.injEq] at H
    obtain ⟨rfl, rfl, rfl, rfl⟩ := H
    go_enter Try.func145, Try.ntmps145
    go_wp2_with (first | ((with_reducible refine gate_callee (f := 182) rfl ?_); refine goesL_ (some 8) rfl rfl Try.func182 (by kernel_rfl) rfl #[.pointer (some ⟨g, 0, none⟩)] rfl (by (try simp only [List.map_toArray, List.map_cons, List.map_nil]); first | done | rfl | (simp only [List.length_drop, List.length_take]; rfl)) ?_; (with_reducible refine (bits_Reader_good.calls g s0_0 s0_1 s0_2 false t125 t126 t127 w0 _ ?side1 ?side2 A3.out).mono ?_); (case side1 => repeat (first | (with_reducible first | exact HI0.out | apply IsS225.alloc | apply IsS225.drewN | apply IsS225.drew | apply IsS225.set_0 | apply IsS225.set_1 | apply IsS225.set_2) | exact HI0.out)); (case side2 => repeat (first | (with_reducible first | exact HB.out | apply below_alloc | apply pw_below_drewN | apply below_drew1 | refine below_set ?_ (IsS225.ge HI0.out)) | exact HB.out)); rintro e w27 ⟨rfl, hi, hb, hk⟩; refine ⟨_, rfl, ?_⟩; have n0_ := Aside0.mk (KeepBut.trans (by repeat (first | (with_reducible first | exact HK.out | apply KeepBut.set_ | apply keep_drewN | apply keep_drew | apply keep_alloc) | exact HK.out)) hk (.inl rfl)); have n1_ := Aside0.mk (hb); have n2_ := Aside0.mk (hi); clear HK; clear HB; clear HI0; have HK := n0_; have HB := n1_; have HI0 := n2_; clear n0_ n1_ n2_; (try clear hb); (try clear hb2); (try clear hk); (try clear hi)))
    go_ret
    exact ⟨by first | rfl | (simp [errW_none, errW_some] <;> rfl) | (simp [*, errW_none, errW_some] <;> rfl), by repeat (first | (with_reducible first | exact HI0.out | apply IsS225.alloc | apply IsS225.drewN | apply IsS225.drew | apply IsS225.set_0 | apply IsS225.set_1 | apply IsS225.set_2) | exact HI0.out), by repeat (first | (with_reducible first | exact HB.out | apply below_alloc | apply pw_below_drewN | apply below_drew1 | refine below_set ?_ (IsS225.ge HI0.out)) | exact HB.out), by repeat (first | (with_reducible first | exact HK.out | apply KeepBut.set_ | apply keep_drewN | apply keep_drew | apply keep_alloc) | exact HK.out)⟩

end Go.Proofs.Ytobanhbjkomieaa.PRd
