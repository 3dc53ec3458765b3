import Derived.Test.YtidcdijplbopeaaKQ
import Derived.LoopN
import Derived.Deep.RegionWith
namespace Go.Proofs.Ytidcdijplbopeaa.KP
open Go.RowKit Go.Proofs.Ytidcdijplbopeaa.PAll Go.Proofs.YtidcdijplbopeaaW.PrintWords Go.Proofs.YtidcdijplbopeaaW.PrintLast
def cnt (least : Int) : Nat → Nat
  | 0 => 0
  | k + 1 => cnt least k + if least ≤ kindOf (k : Int) then 1 else 0
theorem conv_one (W : World) (k : Nat) (_hk : k < 256) : (convert 31 9 (.slice (some ⟨W.heap.size, 0, none⟩) 1 1)).run Try.prog (W.alloc (.cells #[.int .u8 (k : Int)] 5)) = .ok (.string ⟨[UInt8.ofNat k].toArray⟩) (W.alloc (.cells #[.int .u8 (k : Int)] 5)) := by
  have := string_of_reads (P := Try.prog) (w := W.alloc (.cells #[.int .u8 (k : Int)] 5)) (src := 31) (dst := 9) (e := 5) (A := some ⟨W.heap.size, 0, none⟩) (n := 1) (c := 1) (xs := [(k : Int)]) Try.underlying31 Try.underlying5 Try.underlying9
    ⟨rfl, by decide, fun _ => ⟨_, rfl, fun j hj => by
      obtain rfl : j = 0 := by omega
      exact cell_one_new W _ _ 0 _ rfl⟩⟩
  exact this
theorem conv_at (W : World) (b k : Nat) (h : W.cell? ⟨b, 0, none⟩ = some (.int .u8 (k : Int))) : (convert 31 9 (.slice (some ⟨b, 0, none⟩) 1 1)).run Try.prog W = .ok (.string ⟨[UInt8.ofNat k].toArray⟩) W := by
  have := string_of_reads (P := Try.prog) (w := W) (src := 31) (dst := 9) (e := 5) (A := some ⟨b, 0, none⟩) (n := 1) (c := 1) (xs := [(k : Int)]) Try.underlying31 Try.underlying5 Try.underlying9
    ⟨rfl, by decide, fun _ => ⟨_, rfl, fun j hj => by
      obtain rfl : j = 0 := by omega
      exact h⟩⟩
  exact this
theorem cell_keep2 {wr x : World} {o1 : Obj} {v : Value} {t : TypeId} {m : Nat} (h : Below (((wr.alloc o1).alloc (.cells #[v] t)).drewN m).heap.size (((wr.alloc o1).alloc (.cells #[v] t)).drewN m) x) : x.cell? ⟨wr.heap.size + 1, 0, none⟩ = some v := by
  rw [h.cell (p := ⟨wr.heap.size + 1, 0, none⟩) (by simp)]
  simp
theorem conv_drew (W : World) (m k : Nat) (hk : k < 256) : (convert 31 9 (.slice (some ⟨W.heap.size, 0, none⟩) 1 1)).run Try.prog ((W.drewN m).alloc (.cells #[.int .u8 (k : Int)] 5)) = .ok (.string ⟨[UInt8.ofNat k].toArray⟩) ((W.drewN m).alloc (.cells #[.int .u8 (k : Int)] 5)) := conv_one (W.drewN m) k hk
theorem cnt_le (a : Int) : ∀ k, cnt a k ≤ k
  | 0 => Nat.le_refl _
  | k + 1 => by have := cnt_le a k; simp only [cnt]; split <;> omega
theorem kind_le {k : Nat} (h : 1 ≤ kindOf (k : Int)) : k ≤ 122 := by
  unfold kindOf at h
  split at h
  · omega
  · split at h <;> omega
theorem byte_val (k : Nat) (hk : k < 256) : (UInt8.ofNat k).toNat = k := by simp; omega
theorem chain1 {w wr x : World} {o1 : Obj} {m : Nat} (hb : Below w.heap.size w wr) (h : Below ((wr.alloc o1).drewN m).heap.size ((wr.alloc o1).drewN m) x) : Below w.heap.size w x :=
  (pw_below_drewN (hb.alloc hb.size o1) m).trans (h.mono (by have := hb.size; simp; omega))
theorem chain2 {w wr x : World} {o1 o2 : Obj} {m : Nat} (hb : Below w.heap.size w wr) (h : Below (((wr.alloc o1).alloc o2).drewN m).heap.size (((wr.alloc o1).alloc o2).drewN m) x) : Below w.heap.size w x :=
  (pw_below_drewN ((hb.alloc hb.size o1).alloc (by have := hb.size; simp; omega) o2) m).trans (h.mono (by have := hb.size; simp; omega))
theorem quiet_drawn {P : Program} {f : FuncId} {args : Array Value} {w : World} {v : Value} (h : Calls P f args w fun e w' => e = .returned v ∧ Drawn0 w w') : Calls P f args w fun e w' => e = .returned v ∧ ∃ m, w' = w.drewN m :=
  h.mono fun _ _ ⟨he, hm⟩ => ⟨he, hm.out⟩
set_option maxHeartbeats 32000000 in
set_option maxRecDepth 100000 in
theorem KeysNames_walk (w : World) : Calls Try.prog 6 #[] w fun e w' => e = .returned (.bool true) ∧ Below w.heap.size w w' := by
  go_enter Try.func6, Try.ntmps6
  go_wp2_with fail
  refine (awake_any _).mono ?_
  rintro e x1 ⟨rfl, hx1⟩
  go_wp2_with fail
  go_loopw [1, 2, 3] (fun a b c wr => ∃ k : Nat, k ≤ 256 ∧ c = .int .i64 k ∧ a = .int .i64 (cnt 2 k) ∧ b = .int .i64 (cnt 1 k) ∧ Below w.heap.size w wr) (fun _ _ c _ => 256 - (intOf c).toNat)
  case atStart => exact ⟨0, by omega, rfl, rfl, rfl, hx1⟩
  case round =>
    obtain ⟨k, hk, rfl, rfl, rfl, hb⟩ := hrel
    by_cases hlt : k < 256
    · have hc := conv_one wr k hlt
      by_cases hkd : 2 ≤ kindOf (k : Int)
      · have hne : ((k : Int) != 47) = true := by
          rw [bne_iff_ne]
          intro e
          rw [e] at hkd
          exact absurd hkd (by decide)
        have N1 : Hid (isName (⟨[UInt8.ofNat k].toArray⟩ : ByteArray).data.toList = true) := by
          refine Lib.hid ?_
          rw [isName_one, byte_val k hlt]
          exact decide_eq_true (by omega)
        have K1 : Hid (isKey (⟨[UInt8.ofNat k].toArray⟩ : ByteArray).data.toList = true) := by
          refine Lib.hid ?_
          rw [isKey_one, byte_val k hlt]
          exact decide_eq_true (by omega)
        have P1 : Hid (isPrefix (⟨[UInt8.ofNat k].toArray⟩ : ByteArray).data.toList = true) := by
          refine Lib.hid ?_
          rw [← key_prefix (by simp)]
          exact K1.out
        have HC : Hid (cnt 2 (k + 1) = cnt 2 k + 1 ∧ cnt 1 (k + 1) = cnt 1 k + 1) := by
          refine Lib.hid ⟨?_, ?_⟩
          · simp only [cnt]; rw [if_pos (by omega)]
          · simp only [cnt]; rw [if_pos (by omega)]
        have S1 : Hid ((⟨[UInt8.ofNat k].toArray⟩ : ByteArray).size ≤ 140737488351232) := Lib.hid (by rw [size_mk]; simp)
        have c1 := cnt_le 1 k
        have c2 := cnt_le 2 k
        have hk2 : k ≤ 122 := kind_le (by omega)
        have EN : Hid (endK (⟨[UInt8.ofNat k].toArray⟩ : ByteArray).data.toList = [UInt8.ofNat (k + 1)]) := by
          refine Lib.hid ?_
          have hp := P1.out
          unfold endK
          rw [hp]
          simp [byte_val k hlt]
        have hcc : ∀ (W : World) (b : Nat), W.cell? ⟨b, 0, none⟩ = some (.int .u8 (IntKind.u8.wrap (IntKind.i64.wrap ((k : Int) + 1)))) → (convert 31 9 (.slice (some ⟨b, 0, none⟩) 1 1)).run Try.prog W = .ok (.string ⟨[UInt8.ofNat (k + 1)].toArray⟩) W := by
          have e : IntKind.u8.wrap (IntKind.i64.wrap ((k : Int) + 1)) = ((k + 1 : Nat) : Int) := by
            rw [IntKind.wrap_i64, IntKind.wrap_u8]
            omega
          rw [e]
          exact fun W b h => conv_at W b (k + 1) h
        clear hkd
        generalize UInt8.ofNat k = B at *
        generalize UInt8.ofNat (k + 1) = B' at *
        generalize cnt 1 k = n1 at *
        generalize cnt 2 k = n2 at *
        go_wp2_with fail
        refine (name_lit _ _ _ S1.out N1.out).mono ?_
        rintro e w' ⟨rfl, ⟨m1, rfl⟩⟩
        go_wp2_with fail
        refine (key_lit _ _ _ S1.out K1.out).mono ?_
        rintro e w' ⟨rfl, ⟨m2, rfl⟩⟩
        go_wp2_with fail
        go_region_with (first | (go_at_call 20; refine (key_lit _ _ _ S1.out K1.out).mono ?_; rintro e w' ⟨rfl, ⟨m3, rfl⟩⟩) | (go_at_call 21; refine (prefix_lit _ _ _ S1.out P1.out).mono ?_; rintro e w' ⟨rfl, ⟨m4, rfl⟩⟩) | (go_at_call 19; refine (name_lit _ _ _ S1.out N1.out).mono ?_; rintro e w' ⟨rfl, ⟨m5, rfl⟩⟩) | (go_at_call 22; refine (end_lit _ _ _ S1.out EN.out).mono ?_; rintro e x5 ⟨rfl, hb5⟩; (try have hc5 := cell_keep2 hb5)))
        all_goals go_wp2
        all_goals
          refine ⟨⟨k + 1, by omega, by go_num, ?_, ?_, ?_⟩, by simp [intOf]; omega⟩
          · rw [HC.out.1]; go_num
          · rw [HC.out.2]; go_num
          · first | exact chain1 hb hb5 | exact chain2 hb hb5 | exact (chain1 hb hb5).alloc (chain1 hb hb5).size _ | exact (chain2 hb hb5).alloc (chain2 hb hb5).size _
      · by_cases hkd1 : 1 ≤ kindOf (k : Int)
        · have hne : ((k : Int) != 47) = false := by
            rw [bne_eq_false_iff_eq]
            unfold kindOf at hkd hkd1
            split at hkd
            · omega
            · split at hkd1 <;> omega
          have N1 : Hid (isName (⟨[UInt8.ofNat k].toArray⟩ : ByteArray).data.toList = false) := by
            refine Lib.hid ?_
            rw [isName_one, byte_val k hlt]
            exact decide_eq_false (by omega)
          have K1 : Hid (isKey (⟨[UInt8.ofNat k].toArray⟩ : ByteArray).data.toList = true) := by
            refine Lib.hid ?_
            rw [isKey_one, byte_val k hlt]
            exact decide_eq_true (by omega)
          have P1 : Hid (isPrefix (⟨[UInt8.ofNat k].toArray⟩ : ByteArray).data.toList = true) := by
            refine Lib.hid ?_
            rw [← key_prefix (by simp)]
            exact K1.out
          have HC : Hid (cnt 2 (k + 1) = cnt 2 k + 0 ∧ cnt 1 (k + 1) = cnt 1 k + 1) := by
            refine Lib.hid ⟨?_, ?_⟩
            · simp only [cnt]; rw [if_neg (by omega)]
            · simp only [cnt]; rw [if_pos (by omega)]
          have S1 : Hid ((⟨[UInt8.ofNat k].toArray⟩ : ByteArray).size ≤ 140737488351232) := Lib.hid (by rw [size_mk]; simp)
          have c1 := cnt_le 1 k
          have c2 := cnt_le 2 k
          have hk2 : k ≤ 122 := kind_le (by omega)
          have EN : Hid (endK (⟨[UInt8.ofNat k].toArray⟩ : ByteArray).data.toList = [UInt8.ofNat (k + 1)]) := by
            refine Lib.hid ?_
            have hp := P1.out
            unfold endK
            rw [hp]
            simp [byte_val k hlt]
          have hcc : ∀ (W : World) (b : Nat), W.cell? ⟨b, 0, none⟩ = some (.int .u8 (IntKind.u8.wrap (IntKind.i64.wrap ((k : Int) + 1)))) → (convert 31 9 (.slice (some ⟨b, 0, none⟩) 1 1)).run Try.prog W = .ok (.string ⟨[UInt8.ofNat (k + 1)].toArray⟩) W := by
            have e : IntKind.u8.wrap (IntKind.i64.wrap ((k : Int) + 1)) = ((k + 1 : Nat) : Int) := by
              rw [IntKind.wrap_i64, IntKind.wrap_u8]
              omega
            rw [e]
            exact fun W b h => conv_at W b (k + 1) h
          clear hkd hkd1
          generalize UInt8.ofNat k = B at *
          generalize UInt8.ofNat (k + 1) = B' at *
          generalize cnt 1 k = n1 at *
          generalize cnt 2 k = n2 at *
          go_wp2_with fail
          refine (name_lit _ _ _ S1.out N1.out).mono ?_
          rintro e w' ⟨rfl, ⟨m1, rfl⟩⟩
          go_wp2_with fail
          refine (key_lit _ _ _ S1.out K1.out).mono ?_
          rintro e w' ⟨rfl, ⟨m2, rfl⟩⟩
          go_wp2_with fail
          go_region_with (first | (go_at_call 20; refine (key_lit _ _ _ S1.out K1.out).mono ?_; rintro e w' ⟨rfl, ⟨m3, rfl⟩⟩) | (go_at_call 21; refine (prefix_lit _ _ _ S1.out P1.out).mono ?_; rintro e w' ⟨rfl, ⟨m4, rfl⟩⟩) | (go_at_call 19; refine (name_lit _ _ _ S1.out N1.out).mono ?_; rintro e w' ⟨rfl, ⟨m5, rfl⟩⟩) | (go_at_call 22; refine (end_lit _ _ _ S1.out EN.out).mono ?_; rintro e x5 ⟨rfl, hb5⟩; (try have hc5 := cell_keep2 hb5)))
          all_goals go_wp2
          all_goals
            refine ⟨⟨k + 1, by omega, by go_num, ?_, ?_, ?_⟩, by simp [intOf]; omega⟩
            · rw [HC.out.1]; go_num
            · rw [HC.out.2]; go_num
            · first | exact chain1 hb hb5 | exact chain2 hb hb5 | exact (chain1 hb hb5).alloc (chain1 hb hb5).size _ | exact (chain2 hb hb5).alloc (chain2 hb hb5).size _
        · have N1 : Hid (isName (⟨[UInt8.ofNat k].toArray⟩ : ByteArray).data.toList = false) := by
            refine Lib.hid ?_
            rw [isName_one, byte_val k hlt]
            exact decide_eq_false (by omega)
          have K1 : Hid (isKey (⟨[UInt8.ofNat k].toArray⟩ : ByteArray).data.toList = false) := by
            refine Lib.hid ?_
            rw [isKey_one, byte_val k hlt]
            exact decide_eq_false (by omega)
          have P1 : Hid (isPrefix (⟨[UInt8.ofNat k].toArray⟩ : ByteArray).data.toList = false) := by
            refine Lib.hid ?_
            rw [← key_prefix (by simp)]
            exact K1.out
          have HC : Hid (cnt 2 (k + 1) = cnt 2 k + 0 ∧ cnt 1 (k + 1) = cnt 1 k + 0) := by
            refine Lib.hid ⟨?_, ?_⟩
            · simp only [cnt]; rw [if_neg (by omega)]
            · simp only [cnt]; rw [if_neg (by omega)]
          have S1 : Hid ((⟨[UInt8.ofNat k].toArray⟩ : ByteArray).size ≤ 140737488351232) := Lib.hid (by rw [size_mk]; simp)
          have c1 := cnt_le 1 k
          have c2 := cnt_le 2 k
          clear hkd hkd1
          generalize UInt8.ofNat k = B at *
          generalize cnt 1 k = n1 at *
          generalize cnt 2 k = n2 at *
          go_wp2_with fail
          refine (name_lit _ _ _ S1.out N1.out).mono ?_
          rintro e w' ⟨rfl, ⟨m1, rfl⟩⟩
          go_wp2_with fail
          refine (key_lit _ _ _ S1.out K1.out).mono ?_
          rintro e w' ⟨rfl, ⟨m2, rfl⟩⟩
          go_wp2_with fail
          generalize hW2 : World.drewN _ _ = W2
          have hb2 : Below w.heap.size w W2 := by rw [← hW2]; exact pw_below_drewN (hb.alloc hb.size _) _
          have HW2 := Lib.hid hW2
          clear hW2
          go_quiet ((first | (go_at_call 20; exact Calls.quiet_of (quiet_drawn (key_lit _ _ _ S1.out K1.out))) | (go_at_call 21; exact Calls.quiet_of (quiet_drawn (prefix_lit _ _ _ S1.out P1.out))) | (go_at_call 19; exact Calls.quiet_of (quiet_drawn (name_lit _ _ _ S1.out N1.out)))))
          all_goals go_wp2
          all_goals
            refine ⟨⟨k + 1, by omega, by go_num, ?_, ?_, ?_⟩, by simp [intOf]; omega⟩
            · rw [HC.out.1]; go_num
            · rw [HC.out.2]; go_num
            · exact pw_below_drewN hb2 _
    · have hk6 : k = 256 := by omega
      subst hk6
      have q1 : cnt 2 256 = 65 := by decide +kernel
      have q2 : cnt 1 256 = 66 := by decide +kernel
      rw [q1, q2]
      clear q1 q2
      go_wp2_with fail
      refine (cluster_lit _ _ [99, 47, 49, 50, 51, 52, 53, 54, 55, 56, 57, 48, 49, 50, 51, 52, 53, 54, 55, 56, 57, 48, 49, 50, 51, 52, 47, 49, 50, 51, 52, 53, 54, 55, 56, 57, 48, 49, 50, 51, 52, 53, 54, 55, 56, 57, 48, 49, 50, 51, 52] _ (by decide) (by decide) (by decide +kernel)).mono ?_
      rintro e w' ⟨rfl, ⟨m6, rfl⟩⟩
      go_wp2_with fail
      refine (name_lit _ true _ (by decide) (by decide +kernel)).mono ?_
      rintro e w' ⟨rfl, ⟨m7, rfl⟩⟩
      go_wp2_with fail
      refine (name_lit _ false _ (by decide) (by decide +kernel)).mono ?_
      rintro e w' ⟨rfl, ⟨m8, rfl⟩⟩
      go_wp2_with fail
      refine (key_lit _ true _ (by decide) (by decide +kernel)).mono ?_
      rintro e w' ⟨rfl, ⟨m9, rfl⟩⟩
      go_wp2_with fail
      refine (key_lit _ true _ (by decide) (by decide +kernel)).mono ?_
      rintro e w' ⟨rfl, ⟨m10, rfl⟩⟩
      go_wp2_with fail
      refine (key_lit _ false _ (by decide) (by decide +kernel)).mono ?_
      rintro e w' ⟨rfl, ⟨m11, rfl⟩⟩
      go_wp2_with fail
      refine (end_lit _ [] _ (by decide) (by decide +kernel)).mono ?_
      rintro e x2 ⟨rfl, hx2⟩
      go_wp2_with fail
      refine wp_loop_rounds 19 ?_
      rw [rounds_succ]
      go_wp2_with fail
      refine (read_lit _ [] [] false _ (by decide) (by decide +kernel)).mono ?_
      rintro e w' ⟨rfl, ⟨md, rfl⟩⟩
      go_wp2_with fail
      rw [rounds_succ]
      go_wp2_with fail
      refine (read_lit _ [] [] false _ (by decide) (by decide +kernel)).mono ?_
      rintro e w' ⟨rfl, ⟨md, rfl⟩⟩
      go_wp2_with fail
      rw [rounds_succ]
      go_wp2_with fail
      refine (read_lit _ [] [] false _ (by decide) (by decide +kernel)).mono ?_
      rintro e w' ⟨rfl, ⟨md, rfl⟩⟩
      go_wp2_with fail
      rw [rounds_succ]
      go_wp2_with fail
      refine (read_lit _ [] [] false _ (by decide) (by decide +kernel)).mono ?_
      rintro e w' ⟨rfl, ⟨md, rfl⟩⟩
      go_wp2_with fail
      rw [rounds_succ]
      go_wp2_with fail
      refine (read_lit _ [] [] false _ (by decide) (by decide +kernel)).mono ?_
      rintro e w' ⟨rfl, ⟨md, rfl⟩⟩
      go_wp2_with fail
      rw [rounds_succ]
      go_wp2_with fail
      refine (read_lit _ [] [] false _ (by decide) (by decide +kernel)).mono ?_
      rintro e w' ⟨rfl, ⟨md, rfl⟩⟩
      go_wp2_with fail
      rw [rounds_succ]
      go_wp2_with fail
      refine (read_lit _ [] [] false _ (by decide) (by decide +kernel)).mono ?_
      rintro e w' ⟨rfl, ⟨md, rfl⟩⟩
      go_wp2_with fail
      rw [rounds_succ]
      go_wp2_with fail
      refine (read_lit _ [] [] false _ (by decide) (by decide +kernel)).mono ?_
      rintro e w' ⟨rfl, ⟨md, rfl⟩⟩
      go_wp2_with fail
      rw [rounds_succ]
      go_wp2_with fail
      refine (read_lit _ [] [] false _ (by decide) (by decide +kernel)).mono ?_
      rintro e w' ⟨rfl, ⟨md, rfl⟩⟩
      go_wp2_with fail
      rw [rounds_succ]
      go_wp2_with fail
      refine (read_lit _ [] [] false _ (by decide) (by decide +kernel)).mono ?_
      rintro e w' ⟨rfl, ⟨md, rfl⟩⟩
      go_wp2_with fail
      rw [rounds_succ]
      go_wp2_with fail
      refine (read_lit _ [] [] false _ (by decide) (by decide +kernel)).mono ?_
      rintro e w' ⟨rfl, ⟨md, rfl⟩⟩
      go_wp2_with fail
      rw [rounds_succ]
      go_wp2_with fail
      refine (read_lit _ [] [] false _ (by decide) (by decide +kernel)).mono ?_
      rintro e w' ⟨rfl, ⟨md, rfl⟩⟩
      go_wp2_with fail
      rw [rounds_succ]
      go_wp2_with fail
      refine (read_lit _ [] [] false _ (by decide) (by decide +kernel)).mono ?_
      rintro e w' ⟨rfl, ⟨md, rfl⟩⟩
      go_wp2_with fail
      rw [rounds_succ]
      go_wp2_with fail
      refine (read_lit _ [] [] false _ (by decide) (by decide +kernel)).mono ?_
      rintro e w' ⟨rfl, ⟨md, rfl⟩⟩
      go_wp2_with fail
      rw [rounds_succ]
      go_wp2_with fail
      refine (read_lit _ [] [] false _ (by decide) (by decide +kernel)).mono ?_
      rintro e w' ⟨rfl, ⟨md, rfl⟩⟩
      go_wp2_with fail
      rw [rounds_succ]
      go_wp2_with fail
      refine (read_lit _ [] [] false _ (by decide) (by decide +kernel)).mono ?_
      rintro e w' ⟨rfl, ⟨md, rfl⟩⟩
      go_wp2_with fail
      rw [rounds_succ]
      go_wp2_with fail
      refine (read_lit _ [] [] false _ (by decide) (by decide +kernel)).mono ?_
      rintro e w' ⟨rfl, ⟨md, rfl⟩⟩
      go_wp2_with fail
      rw [rounds_succ]
      go_wp2_with fail
      refine (read_lit _ [] [] false _ (by decide) (by decide +kernel)).mono ?_
      rintro e w' ⟨rfl, ⟨md, rfl⟩⟩
      go_wp2_with fail
      rw [rounds_succ]
      go_wp2_with fail
      refine (cluster_lit _ _ [] _ (by decide) (by decide) (by decide +kernel)).mono ?_
      rintro e w' ⟨rfl, ⟨p1, rfl⟩⟩
      go_wp2_with fail
      refine (cluster_lit _ _ [] _ (by decide) (by decide) (by decide +kernel)).mono ?_
      rintro e w' ⟨rfl, ⟨p2, rfl⟩⟩
      go_wp2_with fail
      refine (cluster_lit _ _ [] _ (by decide) (by decide) (by decide +kernel)).mono ?_
      rintro e w' ⟨rfl, ⟨p3, rfl⟩⟩
      go_wp2_with fail
      refine (clusters_lit _ [] _ (by decide) (by decide +kernel)).mono ?_
      rintro e w' ⟨rfl, ⟨p4, rfl⟩⟩
      go_wp2_with fail
      refine (tenant_lit _ [] _ (by decide) (by decide +kernel)).mono ?_
      rintro e w' ⟨rfl, ⟨p5, rfl⟩⟩
      go_wp2_with fail
      refine (prefix_lit _ true _ (by decide) (by decide +kernel)).mono ?_
      rintro e w' ⟨rfl, ⟨p6, rfl⟩⟩
      go_wp2_with fail
      refine (key_lit _ false _ (by decide) (by decide +kernel)).mono ?_
      rintro e w' ⟨rfl, ⟨p7, rfl⟩⟩
      go_wp2_with fail
      refine (begins_lit _ _ true _ (by decide +kernel)).mono ?_
      rintro e w' ⟨rfl, ⟨p8, rfl⟩⟩
      go_wp2
      go_ret
      refine ⟨rfl, ?_⟩
      have b2 : Below w.heap.size w x2 := (pw_below_drewN hb _).trans (hx2.mono hb.size)
      exact pw_below_drewN (b2.alloc b2.size _) _
end Go.Proofs.Ytidcdijplbopeaa.KP
