import Derived.Test.YtobanhbjkomieaaRS
namespace Go.Proofs.Ytobanhbjkomieaa.RP
open Go.RowKit Go.Proofs.Ytobanhbjkomieaa.PAll Go.Proofs.Ytobanhbjkomieaa.KP Go.Proofs.Ytobanhbjkomieaa.BP Go.Proofs.YtobanhbjkomieaaW.PrintWords Go.Proofs.YtobanhbjkomieaaW.PrintLast Go.Proofs.YtobanhbjkomieaaW.PrintMore
set_option linter.unusedSimpArgs false
set_option linter.unusedVariables false
attribute [local go_sem high] EQ.eqA23 EQ.eqA25 EQ.eqA113
/-! ### RecordNames -/
def row9 : Array Value := #[.string ⟨#[]⟩, .int .i64 0, .int .i64 0, .bool false, .bool false, .string ⟨#[114]⟩, .int .i64 1, .int .i64 0, .bool false, .bool true, .string ⟨#[114]⟩, .int .i64 0, .int .i64 0, .bool false, .bool false, .string ⟨#[114, 47]⟩, .int .i64 1, .int .i64 0, .bool false, .bool false, .string ⟨#[97, 97, 97, 97, 97, 97, 97, 97, 97, 97, 97, 97, 97, 97, 97, 97, 97, 97, 97, 97, 97, 97, 97, 97]⟩, .int .i64 1099511627776, .int .i64 1125899906842624, .bool true, .bool true, .string ((⟨#[97, 97, 97, 97, 97, 97, 97, 97, 97, 97, 97, 97, 97, 97, 97, 97, 97, 97, 97, 97, 97, 97, 97, 97]⟩ : ByteArray) ++ (⟨#[97]⟩ : ByteArray)), .int .i64 1, .int .i64 0, .bool false, .bool false, .string ⟨#[114]⟩, .int .i64 1099511627777, .int .i64 0, .bool false, .bool false, .string ⟨#[114]⟩, .int .i64 1, .int .i64 1125899906842625, .bool false, .bool false, .string ⟨#[114]⟩, .int .i64 1, .int .i64 (-1), .bool false, .bool false]
def row7 : Array Value := #[.int .i64 0, .int .i64 0, .bool true, .int .i64 1, .int .i64 1, .bool true, .int .i64 1, .int .i64 0, .bool false, .int .i64 (-1), .int .i64 1, .bool false, .int .i64 1048576, .int .i64 1099511627776, .bool true, .int .i64 1048577, .int .i64 1099511627776, .bool false, .int .i64 0, .int .i64 1099511627777, .bool false]
set_option maxRecDepth 100000 in
theorem row9_at {W : World} {g : Nat} {ad : Addr} (had : ad = ⟨g, 0, none⟩) (h : W.heap[g]? = some (.cells row9 130 (0, 0))) (k : Nat) (hk : k < 9) : ∃ (rep : ByteArray) (ep tm : Int) (gone may : Bool), rep.size ≤ 100 ∧ mayRec rep ep tm = may ∧ W.cell? (ad.add (k * 5)) = some (.string rep) ∧ W.cell? ⟨(ad.add (k * 5)).block, (ad.add (k * 5)).off + 1, none⟩ = some (.int .i64 ep) ∧ W.cell? ⟨(ad.add (k * 5)).block, (ad.add (k * 5)).off + 2, none⟩ = some (.int .i64 tm) ∧ W.cell? ⟨(ad.add (k * 5)).block, (ad.add (k * 5)).off + 3, none⟩ = some (.bool gone) ∧ W.cell? ⟨(ad.add (k * 5)).block, (ad.add (k * 5)).off + 4, none⟩ = some (.bool may) := by
  subst had
  simp only [add_plain]
  have hb := fun i => blk_cell h i
  match k, hk with
  | 0, _ => exact ⟨⟨#[]⟩, 0, 0, false, false, by decide, by decide +kernel, (hb 0).trans rfl, (hb 1).trans rfl, (hb 2).trans rfl, (hb 3).trans rfl, (hb 4).trans rfl⟩
  | 1, _ => exact ⟨⟨#[114]⟩, 1, 0, false, true, by decide, by decide +kernel, (hb 5).trans rfl, (hb 6).trans rfl, (hb 7).trans rfl, (hb 8).trans rfl, (hb 9).trans rfl⟩
  | 2, _ => exact ⟨⟨#[114]⟩, 0, 0, false, false, by decide, by decide +kernel, (hb 10).trans rfl, (hb 11).trans rfl, (hb 12).trans rfl, (hb 13).trans rfl, (hb 14).trans rfl⟩
  | 3, _ => exact ⟨⟨#[114, 47]⟩, 1, 0, false, false, by decide, by decide +kernel, (hb 15).trans rfl, (hb 16).trans rfl, (hb 17).trans rfl, (hb 18).trans rfl, (hb 19).trans rfl⟩
  | 4, _ => exact ⟨⟨#[97, 97, 97, 97, 97, 97, 97, 97, 97, 97, 97, 97, 97, 97, 97, 97, 97, 97, 97, 97, 97, 97, 97, 97]⟩, 1099511627776, 1125899906842624, true, true, by decide, by decide +kernel, (hb 20).trans rfl, (hb 21).trans rfl, (hb 22).trans rfl, (hb 23).trans rfl, (hb 24).trans rfl⟩
  | 5, _ => exact ⟨((⟨#[97, 97, 97, 97, 97, 97, 97, 97, 97, 97, 97, 97, 97, 97, 97, 97, 97, 97, 97, 97, 97, 97, 97, 97]⟩ : ByteArray) ++ (⟨#[97]⟩ : ByteArray)), 1, 0, false, false, by decide, by decide +kernel, (hb 25).trans rfl, (hb 26).trans rfl, (hb 27).trans rfl, (hb 28).trans rfl, (hb 29).trans rfl⟩
  | 6, _ => exact ⟨⟨#[114]⟩, 1099511627777, 0, false, false, by decide, by decide +kernel, (hb 30).trans rfl, (hb 31).trans rfl, (hb 32).trans rfl, (hb 33).trans rfl, (hb 34).trans rfl⟩
  | 7, _ => exact ⟨⟨#[114]⟩, 1, 1125899906842625, false, false, by decide, by decide +kernel, (hb 35).trans rfl, (hb 36).trans rfl, (hb 37).trans rfl, (hb 38).trans rfl, (hb 39).trans rfl⟩
  | 8, _ => exact ⟨⟨#[114]⟩, 1, (-1), false, false, by decide, by decide +kernel, (hb 40).trans rfl, (hb 41).trans rfl, (hb 42).trans rfl, (hb 43).trans rfl, (hb 44).trans rfl⟩
set_option maxRecDepth 100000 in
theorem row7_at {W : World} {g : Nat} {ad : Addr} (had : ad = ⟨g, 0, none⟩) (h : W.heap[g]? = some (.cells row7 132 (0, 0))) (k : Nat) (hk : k < 7) : ∃ (live eps : Int) (may : Bool), mayTen live eps = may ∧ W.cell? (ad.add (k * 3)) = some (.int .i64 live) ∧ W.cell? ⟨(ad.add (k * 3)).block, (ad.add (k * 3)).off + 1, none⟩ = some (.int .i64 eps) ∧ W.cell? ⟨(ad.add (k * 3)).block, (ad.add (k * 3)).off + 2, none⟩ = some (.bool may) := by
  subst had
  simp only [add_plain]
  have hb := fun i => blk_cell h i
  match k, hk with
  | 0, _ => exact ⟨0, 0, true, by decide +kernel, (hb 0).trans rfl, (hb 1).trans rfl, (hb 2).trans rfl⟩
  | 1, _ => exact ⟨1, 1, true, by decide +kernel, (hb 3).trans rfl, (hb 4).trans rfl, (hb 5).trans rfl⟩
  | 2, _ => exact ⟨1, 0, false, by decide +kernel, (hb 6).trans rfl, (hb 7).trans rfl, (hb 8).trans rfl⟩
  | 3, _ => exact ⟨(-1), 1, false, by decide +kernel, (hb 9).trans rfl, (hb 10).trans rfl, (hb 11).trans rfl⟩
  | 4, _ => exact ⟨1048576, 1099511627776, true, by decide +kernel, (hb 12).trans rfl, (hb 13).trans rfl, (hb 14).trans rfl⟩
  | 5, _ => exact ⟨1048577, 1099511627776, false, by decide +kernel, (hb 15).trans rfl, (hb 16).trans rfl, (hb 17).trans rfl⟩
  | 6, _ => exact ⟨0, 1099511627777, false, by decide +kernel, (hb 18).trans rfl, (hb 19).trans rfl, (hb 20).trans rfl⟩
def five : List En := [⟨⟨#[99, 47, 116, 47, 120]⟩, ⟨#[1, 114, 172, 2, 5, 0]⟩, 0, 0⟩, ⟨⟨#[99, 47, 116, 47, 121]⟩, ⟨#[1, 114, 172, 2, 5, 1]⟩, 0, 0⟩, ⟨⟨#[99, 47, 117, 47, 120]⟩, ⟨#[1, 114, 172, 2, 5, 0]⟩, 0, 0⟩, ⟨⟨#[116, 47, 116]⟩, ⟨#[2, 7]⟩, 0, 0⟩, ⟨⟨#[99, 47, 116, 47, 122]⟩, ⟨#[98, 97, 100]⟩, 0, 0⟩]
def row5 : Array Value := #[.string ⟨#[99, 47, 116, 47, 120]⟩, .string ⟨#[1, 114, 172, 2, 5, 0]⟩, .int .i64 0, .int .i64 0, .string ⟨#[99, 47, 116, 47, 121]⟩, .string ⟨#[1, 114, 172, 2, 5, 1]⟩, .int .i64 0, .int .i64 0, .string ⟨#[99, 47, 117, 47, 120]⟩, .string ⟨#[1, 114, 172, 2, 5, 0]⟩, .int .i64 0, .int .i64 0, .string ⟨#[116, 47, 116]⟩, .string ⟨#[2, 7]⟩, .int .i64 0, .int .i64 0, .string ⟨#[99, 47, 116, 47, 122]⟩, .string ⟨#[98, 97, 100]⟩, .int .i64 0, .int .i64 0]
theorem entries_five {W : World} {g : Nat} (h : W.heap[g]? = some (.cells row5 62 (0, 0))) : Kd.C k62 W (some ⟨g, 0, none⟩) five.length five := by
  refine ⟨rfl, by decide, fun _ => ⟨_, rfl, fun i p hp => ?_⟩⟩
  simp only [add_plain]
  have hb := fun q => blk_cell h q
  match i, hp with
  | 0, hp =>
    obtain rfl : _ = p := Option.some.inj hp
    refine ⟨_, rfl, k62_mk _ _, fun q u hu => ?_⟩
    match q, hu with
    | 0, hu => exact (hb 0).trans hu
    | 1, hu => exact (hb 1).trans hu
    | 2, hu => exact (hb 2).trans hu
    | 3, hu => exact (hb 3).trans hu
    | q + 4, hu => simp at hu
  | 1, hp =>
    obtain rfl : _ = p := Option.some.inj hp
    refine ⟨_, rfl, k62_mk _ _, fun q u hu => ?_⟩
    match q, hu with
    | 0, hu => exact (hb 4).trans hu
    | 1, hu => exact (hb 5).trans hu
    | 2, hu => exact (hb 6).trans hu
    | 3, hu => exact (hb 7).trans hu
    | q + 4, hu => simp at hu
  | 2, hp =>
    obtain rfl : _ = p := Option.some.inj hp
    refine ⟨_, rfl, k62_mk _ _, fun q u hu => ?_⟩
    match q, hu with
    | 0, hu => exact (hb 8).trans hu
    | 1, hu => exact (hb 9).trans hu
    | 2, hu => exact (hb 10).trans hu
    | 3, hu => exact (hb 11).trans hu
    | q + 4, hu => simp at hu
  | 3, hp =>
    obtain rfl : _ = p := Option.some.inj hp
    refine ⟨_, rfl, k62_mk _ _, fun q u hu => ?_⟩
    match q, hu with
    | 0, hu => exact (hb 12).trans hu
    | 1, hu => exact (hb 13).trans hu
    | 2, hu => exact (hb 14).trans hu
    | 3, hu => exact (hb 15).trans hu
    | q + 4, hu => simp at hu
  | 4, hp =>
    obtain rfl : _ = p := Option.some.inj hp
    refine ⟨_, rfl, k62_mk _ _, fun q u hu => ?_⟩
    match q, hu with
    | 0, hu => exact (hb 16).trans hu
    | 1, hu => exact (hb 17).trans hu
    | 2, hu => exact (hb 18).trans hu
    | 3, hu => exact (hb 19).trans hu
    | q + 4, hu => simp at hu
  | i + 5, hp => exact absurd hp (by simp [five])
theorem live_five (t : ByteArray) (n : Int) (hn : (liveL five t.data.toList : Int) = n) (g : Nat) (W : World) (h : W.heap[g]? = some (.cells row5 62 (0, 0))) :
    Calls Try.prog 91 #[.slice (some ⟨g, 0, none⟩) 5 5, .string t] W fun e w' => e = .returned (.int .i64 n) ∧ Below W.heap.size W w' := by
  subst hn
  refine live_any _ 5 five t W (by decide) (entries_five h) (by decide) (fun x hx => ?_)
  simp only [five, List.mem_cons, List.not_mem_nil, or_false] at hx
  rcases hx with rfl | rfl | rfl | rfl | rfl <;> exact ⟨by decide, by decide⟩
theorem live_nil (t : ByteArray) (W : World) :
    Calls Try.prog 91 #[.slice none 0 0, .string t] W fun e w' => e = .returned (.int .i64 0) ∧ Below W.heap.size W w' :=
  live_any none 0 [] t W (by decide) (Kd.C_nil _ _) (by decide) (fun x hx => by simp at hx)
set_option maxHeartbeats 4000000 in
set_option maxRecDepth 100000 in
theorem RecordNames_walk (w : World) :
    Calls Try.prog 18 #[] w fun e w' => e = .returned (.bool true) ∧ Below w.heap.size w w' := by
  go_enter Try.func18, Try.ntmps18
  go_wp2_with fail
  refine (awake_any _).mono ?_
  rintro e w1 ⟨rfl, hb1⟩
  go_wp2_with fail
  obtain ⟨g1, hgg1⟩ : ∃ g, g = w1.heap.size := ⟨_, rfl⟩
  obtain ⟨ad, had⟩ : ∃ ad : Addr, ad = ⟨g1, 0, none⟩ := ⟨_, rfl⟩
  have hadg : ({ block := w1.heap.size, off := 0 } : Addr) = ad := by rw [had, hgg1]
  rw [hadg]
  have HAD := Lib.hid had
  obtain ⟨W1, hW1⟩ : ∃ W : World, W = w1.alloc (.cells row9 130) := ⟨_, rfl⟩
  have HB1 := Lib.hid (show Below w.heap.size w W1 by rw [hW1]; exact below_alloc hb1 _)
  have HR1 := Lib.hid (show W1.heap[g1]? = some (.cells row9 130 (0, 0)) by rw [hW1, hgg1]; exact heap_alloc_new _ _)
  go_loopw [46] (fun i wr => ∃ k : Nat, k ≤ 9 ∧ i = .int .i64 k ∧ Below W1.heap.size W1 wr) (fun i _ => 9 - (intOf i).toNat)
  case atStart => exact ⟨0, by omega, rfl, by rw [hW1]; exact Below.refl _ _⟩
  obtain ⟨k, hk, rfl, hbw⟩ := hrel
  clear had hadg hW1 hgg1
  by_cases hlt : k < 9
  · have hrow := (hbw.block _ (blk_lt HR1.out)).trans HR1.out
    obtain ⟨rep, ep, tm, gone, may, hs, hm, f0, f1, f2, f3, f4⟩ := row9_at HAD.out hrow k hlt
    clear hrow
    have f2' := recMay_any rep (by omega) ep tm gone
    rw [hm] at f2'
    rcases encCase rep (by omega) ep tm gone with ⟨hm', a, _, _, _, f1', _⟩ | ⟨hm', f1'⟩ <;> (rw [hm] at hm'; subst hm')
    · have H1 := Lib.hid f1'
      have H2 := Lib.hid f2'
      clear f1' hm
      go_wp2_with fail
      refine (H1.out _).mono ?_
      rintro r w2 ⟨rfl, hb2⟩
      have HX := (hb2.block wr.heap.size (by simp)).trans (heap_alloc_new wr (.cells #[.string rep, .int .i64 ep, .int .i64 tm, .bool gone, .bool true] 130))
      have hbx := (below_alloc hbw (.cells #[.string rep, .int .i64 ep, .int .i64 tm, .bool gone, .bool true] 130)).trans (hb2.mono (by have := hbw.size; simp; omega))
      clear hb2 hbw
      have c0 := blk_cell HX 0
      have c1 := blk_cell HX 1
      have c2 := blk_cell HX 2
      have c3 := blk_cell HX 3
      have c4 := blk_cell HX 4
      simp only [List.getElem?_toArray, List.getElem?_cons_zero, List.getElem?_cons_succ] at c0 c1 c2 c3 c4
      have hlX := blk_lt HX
      have hbw := hbx
      generalize wr.heap.size = X at *
      clear HX hbx f0 f1 f2 f3 f4
      go_wp2_with fail
      refine wp_region_noPanic ?_
      refine wp_region_held_drew (S := fun W => W.cell? ⟨X, 0, none⟩ = some (.string rep) ∧ W.cell? ⟨X, 1, none⟩ = some (.int .i64 ep) ∧ W.cell? ⟨X, 2, none⟩ = some (.int .i64 tm) ∧ W.cell? ⟨X, 3, none⟩ = some (.bool gone) ∧ W.cell? ⟨X, 4, none⟩ = some (.bool true)) (by kernel_rfl) (by simp [*]) (fun hHeld => ?_)
      refine wpAnyH_take (i := 0) (oi := ?oo1) (v := ?vv1) ?hi1 (by kernel_rfl) ?hf1 (by kernel_rfl) (fun _ _ _ h => h) ?hy1 (by assumption) ?hh1
      case hi1 => (simp only [List.getElem?_toArray, List.getElem?_cons_zero, List.getElem?_cons_succ]; rfl)
      case hf1 => kernel_rfl
      case hy1 =>
        refine Or.inl ⟨by rfl, ?_⟩
        intro w hSw
        (try dsimp only at hSw)
        go_simp
        try with_reducible rfl
      try simp only [Act.put, List.setIfInBounds_toArray, List.set_cons_zero, List.set_cons_succ]
      refine wpAnyH_take (i := 1) (oi := ?oo2) (v := ?vv2) ?hi2 (by kernel_rfl) ?hf2 (by kernel_rfl) (fun _ _ _ h => h) ?hy2 (by assumption) ?hh2
      case hi2 => (simp only [List.getElem?_toArray, List.getElem?_cons_zero, List.getElem?_cons_succ]; rfl)
      case hf2 => kernel_rfl
      case hy2 =>
        refine Or.inl ⟨by rfl, ?_⟩
        intro w hSw
        (try dsimp only at hSw)
        go_simp
        try with_reducible rfl
      try simp only [Act.put, List.setIfInBounds_toArray, List.set_cons_zero, List.set_cons_succ]
      refine wpAnyH_take (i := 3) (oi := ?oo3) (v := ?vv3) ?hi3 (by kernel_rfl) ?hf3 (by kernel_rfl) (fun _ _ _ h => h) ?hy3 (by assumption) ?hh3
      case hi3 => (simp only [List.getElem?_toArray, List.getElem?_cons_zero, List.getElem?_cons_succ]; rfl)
      case hf3 => kernel_rfl
      case hy3 =>
        refine Or.inl ⟨by rfl, ?_⟩
        intro w hSw
        (try dsimp only at hSw)
        go_simp
        try with_reducible rfl
      try simp only [Act.put, List.setIfInBounds_toArray, List.set_cons_zero, List.set_cons_succ]
      refine wpAnyH_take (i := 4) (oi := ?oo4) (v := ?vv4) ?hi4 (by kernel_rfl) ?hf4 (by kernel_rfl) (fun _ _ _ h => h) ?hy4 (by assumption) ?hh4
      case hi4 => (simp only [List.getElem?_toArray, List.getElem?_cons_zero, List.getElem?_cons_succ]; rfl)
      case hf4 => kernel_rfl
      case hy4 =>
        refine Or.inl ⟨by rfl, ?_⟩
        intro w hSw
        (try dsimp only at hSw)
        go_simp
        try with_reducible rfl
      try simp only [Act.put, List.setIfInBounds_toArray, List.set_cons_zero, List.set_cons_succ]
      refine wpAnyH_ready (rs := [2]) (by kernel_rfl) (by simp) (AllReadyH.cons rfl (fun K hK => ?_) AllReadyH.nil)
      go_simp
      (go_at_call 85; (with_reducible refine (H2.out _).mono ?_); rintro e x5 ⟨rfl, hb5⟩; have d0 := keep_cell (a := ⟨X, 0, none⟩) (v := .string rep) hb5 (by simp [*]); have d1 := keep_cell (a := ⟨X, 1, none⟩) (v := .int .i64 ep) hb5 (by simp [*]); have d2 := keep_cell (a := ⟨X, 2, none⟩) (v := .int .i64 tm) hb5 (by simp [*]); have d3 := keep_cell (a := ⟨X, 3, none⟩) (v := .bool gone) hb5 (by simp [*]); have d4 := keep_cell (a := ⟨X, 4, none⟩) (v := .bool true) hb5 (by simp [*]); (first | have hbw := below_next0 hbw hb5 | have hbw := below_next hbw hb5))
      go_wp2_with fail
      refine hK.out _ _ (by simp [*]) (fun hHeld => ?_)
      clear hK K
      try simp only [Act.put, List.setIfInBounds_toArray, List.set_cons_zero, List.set_cons_succ]
      refine wpAnyH_take (i := 5) (oi := ?oo5) (v := ?vv5) ?hi5 (by kernel_rfl) ?hf5 (by kernel_rfl) (fun _ _ _ h => h) ?hy5 (by assumption) ?hh5
      case hi5 => (simp only [List.getElem?_toArray, List.getElem?_cons_zero, List.getElem?_cons_succ]; rfl)
      case hf5 => kernel_rfl
      case hy5 =>
        refine Or.inl ⟨by rfl, ?_⟩
        intro w hSw
        (try dsimp only at hSw)
        go_simp
        try with_reducible rfl
      try simp only [Act.put, List.setIfInBounds_toArray, List.set_cons_zero, List.set_cons_succ]
      refine wpAnyH_take (i := 6) (oi := ?oo6) (v := ?vv6) ?hi6 (by kernel_rfl) ?hf6 (by kernel_rfl) (fun _ _ _ h => h) ?hy6 (by assumption) ?hh6
      case hi6 => (simp only [List.getElem?_toArray, List.getElem?_cons_zero, List.getElem?_cons_succ]; rfl)
      case hf6 => kernel_rfl
      case hy6 =>
        refine Or.inl ⟨by rfl, ?_⟩
        intro w hSw
        (try dsimp only at hSw)
        go_simp
        try with_reducible rfl
      try simp only [Act.put, List.setIfInBounds_toArray, List.set_cons_zero, List.set_cons_succ]
      refine wpAnyH_take (i := 7) (oi := ?oo7) (v := ?vv7) ?hi7 (by kernel_rfl) ?hf7 (by kernel_rfl) (fun _ _ _ h => h) ?hy7 (by assumption) ?hh7
      case hi7 => (simp only [List.getElem?_toArray, List.getElem?_cons_zero, List.getElem?_cons_succ]; rfl)
      case hf7 => kernel_rfl
      case hy7 =>
        refine Or.inl ⟨by rfl, ?_⟩
        intro w hSw
        (try dsimp only at hSw)
        go_simp
        try with_reducible rfl
      try simp only [Act.put, List.setIfInBounds_toArray, List.set_cons_zero, List.set_cons_succ]
      refine wpAnyH_take (i := 8) (oi := ?oo8) (v := ?vv8) ?hi8 (by kernel_rfl) ?hf8 (by kernel_rfl) (fun _ _ _ h => h) ?hy8 (by assumption) ?hh8
      case hi8 => (simp only [List.getElem?_toArray, List.getElem?_cons_zero, List.getElem?_cons_succ]; rfl)
      case hf8 => kernel_rfl
      case hy8 =>
        refine Or.inl ⟨by rfl, ?_⟩
        intro w hSw
        (try dsimp only at hSw)
        go_simp
        try with_reducible rfl
      try simp only [Act.put, List.setIfInBounds_toArray, List.set_cons_zero, List.set_cons_succ]
      refine wpAnyH_take (i := 9) (oi := ?oo9) (v := ?vv9) ?hi9 (by kernel_rfl) ?hf9 (by kernel_rfl) (fun _ _ _ h => h) ?hy9 (by assumption) ?hh9
      case hi9 => (simp only [List.getElem?_toArray, List.getElem?_cons_zero, List.getElem?_cons_succ]; rfl)
      case hf9 => kernel_rfl
      case hy9 =>
        refine Or.inl ⟨by rfl, ?_⟩
        intro w hSw
        (try dsimp only at hSw)
        go_simp
        try with_reducible rfl
      try simp only [Act.put, List.setIfInBounds_toArray, List.set_cons_zero, List.set_cons_succ]
      refine wpAnyH_take (i := 10) (oi := ?oo10) (v := ?vv10) ?hi10 (by kernel_rfl) ?hf10 (by kernel_rfl) (fun _ _ _ h => h) ?hy10 (by assumption) ?hh10
      case hi10 => (simp only [List.getElem?_toArray, List.getElem?_cons_zero, List.getElem?_cons_succ]; rfl)
      case hf10 => kernel_rfl
      case hy10 =>
        refine Or.inl ⟨by rfl, ?_⟩
        intro w hSw
        (try dsimp only at hSw)
        go_simp
        try with_reducible rfl
      try simp only [Act.put, List.setIfInBounds_toArray, List.set_cons_zero, List.set_cons_succ]
      refine wpAnyH_take (i := 11) (oi := ?oo11) (v := ?vv11) ?hi11 (by kernel_rfl) ?hf11 (by kernel_rfl) (fun _ _ _ h => h) ?hy11 (by assumption) ?hh11
      case hi11 => (simp only [List.getElem?_toArray, List.getElem?_cons_zero, List.getElem?_cons_succ]; rfl)
      case hf11 => kernel_rfl
      case hy11 =>
        refine Or.inl ⟨by rfl, ?_⟩
        intro w hSw
        (try dsimp only at hSw)
        go_simp
        try with_reducible rfl
      try simp only [Act.put, List.setIfInBounds_toArray, List.set_cons_zero, List.set_cons_succ]
      refine wpAnyH_take (i := 12) (oi := ?oo12) (v := ?vv12) ?hi12 (by kernel_rfl) ?hf12 (by kernel_rfl) (fun _ _ _ h => h) ?hy12 (by assumption) ?hh12
      case hi12 => (simp only [List.getElem?_toArray, List.getElem?_cons_zero, List.getElem?_cons_succ]; rfl)
      case hf12 => kernel_rfl
      case hy12 =>
        refine Or.inl ⟨by rfl, ?_⟩
        intro w hSw
        (try dsimp only at hSw)
        go_simp
        try with_reducible rfl
      try simp only [Act.put, List.setIfInBounds_toArray, List.set_cons_zero, List.set_cons_succ]
      refine wpAnyH_take (i := 13) (oi := ?oo13) (v := ?vv13) ?hi13 (by kernel_rfl) ?hf13 (by kernel_rfl) (fun _ _ _ h => h) ?hy13 (by assumption) ?hh13
      case hi13 => (simp only [List.getElem?_toArray, List.getElem?_cons_zero, List.getElem?_cons_succ]; rfl)
      case hf13 => kernel_rfl
      case hy13 =>
        refine Or.inl ⟨by rfl, ?_⟩
        intro w hSw
        (try dsimp only at hSw)
        go_simp
        try with_reducible rfl
      try simp only [Act.put, List.setIfInBounds_toArray, List.set_cons_zero, List.set_cons_succ]
      refine wpAnyH_take (i := 14) (oi := ?oo14) (v := ?vv14) ?hi14 (by kernel_rfl) ?hf14 (by kernel_rfl) (fun _ _ _ h => h) ?hy14 (by assumption) ?hh14
      case hi14 => (simp only [List.getElem?_toArray, List.getElem?_cons_zero, List.getElem?_cons_succ]; rfl)
      case hf14 => kernel_rfl
      case hy14 =>
        refine Or.inl ⟨by rfl, ?_⟩
        intro w hSw
        (try dsimp only at hSw)
        go_simp
        try with_reducible rfl
      try simp only [Act.put, List.setIfInBounds_toArray, List.set_cons_zero, List.set_cons_succ]
      refine wpAnyH_take (i := 15) (oi := ?oo15) (v := ?vv15) ?hi15 (by kernel_rfl) ?hf15 (by kernel_rfl) (fun _ _ _ h => h) ?hy15 (by assumption) ?hh15
      case hi15 => (simp only [List.getElem?_toArray, List.getElem?_cons_zero, List.getElem?_cons_succ]; rfl)
      case hf15 => kernel_rfl
      case hy15 =>
        refine Or.inl ⟨by rfl, ?_⟩
        intro w hSw
        (try dsimp only at hSw)
        go_simp
        try with_reducible rfl
      try simp only [Act.put, List.setIfInBounds_toArray, List.set_cons_zero, List.set_cons_succ]
      refine wpAnyH_take (i := 16) (oi := ?oo16) (v := ?vv16) ?hi16 (by kernel_rfl) ?hf16 (by kernel_rfl) (fun _ _ _ h => h) ?hy16 (by assumption) ?hh16
      case hi16 => (simp only [List.getElem?_toArray, List.getElem?_cons_zero, List.getElem?_cons_succ]; rfl)
      case hf16 => kernel_rfl
      case hy16 =>
        refine Or.inl ⟨by rfl, ?_⟩
        intro w hSw
        (try dsimp only at hSw)
        go_simp
        try with_reducible rfl
      try simp only [Act.put, List.setIfInBounds_toArray, List.set_cons_zero, List.set_cons_succ]
      refine wpAnyH_take (i := 17) (oi := ?oo17) (v := ?vv17) ?hi17 (by kernel_rfl) ?hf17 (by kernel_rfl) (fun _ _ _ h => h) ?hy17 (by assumption) ?hh17
      case hi17 => (simp only [List.getElem?_toArray, List.getElem?_cons_zero, List.getElem?_cons_succ]; rfl)
      case hf17 => kernel_rfl
      case hy17 =>
        refine Or.inl ⟨by rfl, ?_⟩
        intro w hSw
        (try dsimp only at hSw)
        go_simp
        try with_reducible rfl
      try simp only [Act.put, List.setIfInBounds_toArray, List.set_cons_zero, List.set_cons_succ]
      refine wpAnyH_take (i := 18) (oi := ?oo18) (v := undef) ?hi18 (by kernel_rfl) ?hf18 (by kernel_rfl) (fun _ _ _ h => h) ?hy18 (by assumption) ?hh18
      case hi18 => (simp only [List.getElem?_toArray, List.getElem?_cons_zero, List.getElem?_cons_succ]; rfl)
      case hf18 => kernel_rfl
      case hy18 => exact Or.inr ⟨by rfl, rfl⟩
      try simp only [Act.put, List.setIfInBounds_toArray, List.set_cons_zero, List.set_cons_succ]
      refine wpAnyH_take (i := 19) (oi := ?oo19) (v := undef) ?hi19 (by kernel_rfl) ?hf19 (by kernel_rfl) (fun _ _ _ h => h) ?hy19 (by assumption) ?hh19
      case hi19 => (simp only [List.getElem?_toArray, List.getElem?_cons_zero, List.getElem?_cons_succ]; rfl)
      case hf19 => kernel_rfl
      case hy19 => exact Or.inr ⟨by rfl, rfl⟩
      try simp only [Act.put, List.setIfInBounds_toArray, List.set_cons_zero, List.set_cons_succ]
      refine wpAnyH_take (i := 20) (oi := ?oo20) (v := undef) ?hi20 (by kernel_rfl) ?hf20 (by kernel_rfl) (fun _ _ _ h => h) ?hy20 (by assumption) ?hh20
      case hi20 => (simp only [List.getElem?_toArray, List.getElem?_cons_zero, List.getElem?_cons_succ]; rfl)
      case hf20 => kernel_rfl
      case hy20 => exact Or.inr ⟨by rfl, rfl⟩
      try simp only [Act.put, List.setIfInBounds_toArray, List.set_cons_zero, List.set_cons_succ]
      refine wpAnyH_take (i := 21) (oi := ?oo21) (v := undef) ?hi21 (by kernel_rfl) ?hf21 (by kernel_rfl) (fun _ _ _ h => h) ?hy21 (by assumption) ?hh21
      case hi21 => (simp only [List.getElem?_toArray, List.getElem?_cons_zero, List.getElem?_cons_succ]; rfl)
      case hf21 => kernel_rfl
      case hy21 => exact Or.inr ⟨by rfl, rfl⟩
      try simp only [Act.put, List.setIfInBounds_toArray, List.set_cons_zero, List.set_cons_succ]
      refine wpAnyH_take (i := 22) (oi := ?oo22) (v := undef) ?hi22 (by kernel_rfl) ?hf22 (by kernel_rfl) (fun _ _ _ h => h) ?hy22 (by assumption) ?hh22
      case hi22 => (simp only [List.getElem?_toArray, List.getElem?_cons_zero, List.getElem?_cons_succ]; rfl)
      case hf22 => kernel_rfl
      case hy22 => exact Or.inr ⟨by rfl, rfl⟩
      try simp only [Act.put, List.setIfInBounds_toArray, List.set_cons_zero, List.set_cons_succ]
      refine wpAnyH_take (i := 23) (oi := ?oo23) (v := undef) ?hi23 (by kernel_rfl) ?hf23 (by kernel_rfl) (fun _ _ _ h => h) ?hy23 (by assumption) ?hh23
      case hi23 => (simp only [List.getElem?_toArray, List.getElem?_cons_zero, List.getElem?_cons_succ]; rfl)
      case hf23 => kernel_rfl
      case hy23 => exact Or.inr ⟨by rfl, rfl⟩
      try simp only [Act.put, List.setIfInBounds_toArray, List.set_cons_zero, List.set_cons_succ]
      refine wpAnyH_take (i := 24) (oi := ?oo24) (v := ?vv24) ?hi24 (by kernel_rfl) ?hf24 (by kernel_rfl) (fun _ _ _ h => h) ?hy24 (by assumption) ?hh24
      case hi24 => (simp only [List.getElem?_toArray, List.getElem?_cons_zero, List.getElem?_cons_succ]; rfl)
      case hf24 => kernel_rfl
      case hy24 =>
        refine Or.inl ⟨by rfl, ?_⟩
        intro w hSw
        (try dsimp only at hSw)
        go_simp
        try with_reducible rfl
      try simp only [Act.put, List.setIfInBounds_toArray, List.set_cons_zero, List.set_cons_succ]
      refine wpAnyH_take (i := 25) (oi := ?oo25) (v := ?vv25) ?hi25 (by kernel_rfl) ?hf25 (by kernel_rfl) (fun _ _ _ h => h) ?hy25 (by assumption) ?hh25
      case hi25 => (simp only [List.getElem?_toArray, List.getElem?_cons_zero, List.getElem?_cons_succ]; rfl)
      case hf25 => kernel_rfl
      case hy25 =>
        refine Or.inl ⟨by rfl, ?_⟩
        intro w hSw
        (try dsimp only at hSw)
        go_simp
        try with_reducible rfl
      try simp only [Act.put, List.setIfInBounds_toArray, List.set_cons_zero, List.set_cons_succ]
      refine wpAnyH_done (by kernel_rfl) ?_ _
      refine NoPanic.normal ?_
      all_goals go_wp2
      all_goals go_roundw
      case rel => first | exact ⟨k + 1, by omega, by go_num, by first | exact hbw | exact pw_below_drewN hbw _⟩ | ((repeat apply Exists.intro); exact ⟨⟨k + 1, by omega, by go_num, by first | exact hbw | exact pw_below_drewN hbw _⟩, rfl⟩)
      case measure => simp [intOf]; omega
    · have H1 := Lib.hid f1'
      have H2 := Lib.hid f2'
      clear f1' hm
      go_wp2_with fail
      refine (H1.out _).mono ?_
      rintro r w2 ⟨rfl, hb2⟩
      have HX := (hb2.block wr.heap.size (by simp)).trans (heap_alloc_new wr (.cells #[.string rep, .int .i64 ep, .int .i64 tm, .bool gone, .bool false] 130))
      have hbx := (below_alloc hbw (.cells #[.string rep, .int .i64 ep, .int .i64 tm, .bool gone, .bool false] 130)).trans (hb2.mono (by have := hbw.size; simp; omega))
      clear hb2 hbw
      have c0 := blk_cell HX 0
      have c1 := blk_cell HX 1
      have c2 := blk_cell HX 2
      have c3 := blk_cell HX 3
      have c4 := blk_cell HX 4
      simp only [List.getElem?_toArray, List.getElem?_cons_zero, List.getElem?_cons_succ] at c0 c1 c2 c3 c4
      have hlX := blk_lt HX
      have hbw := hbx
      generalize wr.heap.size = X at *
      clear HX hbx f0 f1 f2 f3 f4
      go_wp2_with fail
      go_region_held3 (fun W => W.cell? ⟨X, 0, none⟩ = some (.string rep) ∧ W.cell? ⟨X, 1, none⟩ = some (.int .i64 ep) ∧ W.cell? ⟨X, 2, none⟩ = some (.int .i64 tm) ∧ W.cell? ⟨X, 3, none⟩ = some (.bool gone) ∧ W.cell? ⟨X, 4, none⟩ = some (.bool false)) (go_keep) ((go_at_call 85; (with_reducible refine (H2.out _).mono ?_); rintro e x5 ⟨rfl, hb5⟩; have d0 := keep_cell (a := ⟨X, 0, none⟩) (v := .string rep) hb5 (by simp [*]); have d1 := keep_cell (a := ⟨X, 1, none⟩) (v := .int .i64 ep) hb5 (by simp [*]); have d2 := keep_cell (a := ⟨X, 2, none⟩) (v := .int .i64 tm) hb5 (by simp [*]); have d3 := keep_cell (a := ⟨X, 3, none⟩) (v := .bool gone) hb5 (by simp [*]); have d4 := keep_cell (a := ⟨X, 4, none⟩) (v := .bool false) hb5 (by simp [*]); (first | have hbw := below_next0 hbw hb5 | have hbw := below_next hbw hb5)))
      all_goals go_wp2
      all_goals go_roundw
      case rel => first | exact ⟨k + 1, by omega, by go_num, by first | exact hbw | exact pw_below_drewN hbw _⟩ | ((repeat apply Exists.intro); exact ⟨⟨k + 1, by omega, by go_num, by first | exact hbw | exact pw_below_drewN hbw _⟩, rfl⟩)
      case measure => simp [intOf]; omega
  · have hb2 := HB1.out.trans (hbw.mono HB1.out.size)
    clear hbw HB1 HR1 HAD hb1
    obtain rfl : k = 9 := by omega
    clear hlt hk
    obtain ⟨v, hv⟩ : ∃ v, v = wr := ⟨_, rfl⟩
    rw [← hv] at hb2 ⊢
    clear hv
    go_wp2_with fail
    obtain ⟨g2, hgg2⟩ : ∃ g, g = v.heap.size := ⟨_, rfl⟩
    obtain ⟨ad, had⟩ : ∃ ad : Addr, ad = ⟨g2, 0, none⟩ := ⟨_, rfl⟩
    have hadg : ({ block := v.heap.size, off := 0 } : Addr) = ad := by rw [had, hgg2]
    rw [hadg]
    have HAD := Lib.hid had
    obtain ⟨W2, hW2⟩ : ∃ W : World, W = v.alloc (.cells row7 132) := ⟨_, rfl⟩
    have HB2 := Lib.hid (show Below w.heap.size w W2 by rw [hW2]; exact below_alloc hb2 _)
    have HR2 := Lib.hid (show W2.heap[g2]? = some (.cells row7 132 (0, 0)) by rw [hW2, hgg2]; exact heap_alloc_new _ _)
    go_loopw [99] (fun i wr => ∃ k : Nat, k ≤ 7 ∧ i = .int .i64 k ∧ Below W2.heap.size W2 wr) (fun i _ => 7 - (intOf i).toNat)
    case atStart => exact ⟨0, by omega, rfl, by rw [hW2]; exact Below.refl _ _⟩
    obtain ⟨k, hk, rfl, hbw⟩ := hrel
    clear had hadg hW2 hgg2
    by_cases hlt : k < 7
    · have hrow := (hbw.block _ (blk_lt HR2.out)).trans HR2.out
      obtain ⟨live, eps, may, hm, f0, f1, f2⟩ := row7_at HAD.out hrow k hlt
      clear hrow
      have f2' := tenMay_any live eps
      rw [hm] at f2'
      rcases encTCase live eps with ⟨hm', a, _, _, _, f1', _⟩ | ⟨hm', f1'⟩ <;> (rw [hm] at hm'; subst hm')
      · have H1 := Lib.hid f1'
        have H2 := Lib.hid f2'
        clear f1' hm
        go_wp2_with fail
        refine (H1.out _).mono ?_
        rintro r w2 ⟨rfl, hb2⟩
        have HX := (hb2.block wr.heap.size (by simp)).trans (heap_alloc_new wr (.cells #[.int .i64 live, .int .i64 eps, .bool true] 132))
        have hbx := (below_alloc hbw (.cells #[.int .i64 live, .int .i64 eps, .bool true] 132)).trans (hb2.mono (by have := hbw.size; simp; omega))
        clear hb2 hbw
        have c0 := blk_cell HX 0
        have c1 := blk_cell HX 1
        have c2 := blk_cell HX 2
        simp only [List.getElem?_toArray, List.getElem?_cons_zero, List.getElem?_cons_succ] at c0 c1 c2
        have hlX := blk_lt HX
        have hbw := hbx
        generalize wr.heap.size = X at *
        clear HX hbx f0 f1 f2
        go_wp2_with fail
        refine wp_region_noPanic ?_
        refine wp_region_held_drew (S := fun W => W.cell? ⟨X, 0, none⟩ = some (.int .i64 live) ∧ W.cell? ⟨X, 1, none⟩ = some (.int .i64 eps) ∧ W.cell? ⟨X, 2, none⟩ = some (.bool true)) (by kernel_rfl) (by simp [*]) (fun hHeld => ?_)
        refine wpAnyH_take (i := 0) (oi := ?oo51) (v := ?vv51) ?hi51 (by kernel_rfl) ?hf51 (by kernel_rfl) (fun _ _ _ h => h) ?hy51 (by assumption) ?hh51
        case hi51 => (simp only [List.getElem?_toArray, List.getElem?_cons_zero, List.getElem?_cons_succ]; rfl)
        case hf51 => kernel_rfl
        case hy51 =>
          refine Or.inl ⟨by rfl, ?_⟩
          intro w hSw
          (try dsimp only at hSw)
          go_simp
          try with_reducible rfl
        try simp only [Act.put, List.setIfInBounds_toArray, List.set_cons_zero, List.set_cons_succ]
        refine wpAnyH_take (i := 1) (oi := ?oo52) (v := ?vv52) ?hi52 (by kernel_rfl) ?hf52 (by kernel_rfl) (fun _ _ _ h => h) ?hy52 (by assumption) ?hh52
        case hi52 => (simp only [List.getElem?_toArray, List.getElem?_cons_zero, List.getElem?_cons_succ]; rfl)
        case hf52 => kernel_rfl
        case hy52 =>
          refine Or.inl ⟨by rfl, ?_⟩
          intro w hSw
          (try dsimp only at hSw)
          go_simp
          try with_reducible rfl
        try simp only [Act.put, List.setIfInBounds_toArray, List.set_cons_zero, List.set_cons_succ]
        refine wpAnyH_take (i := 3) (oi := ?oo53) (v := ?vv53) ?hi53 (by kernel_rfl) ?hf53 (by kernel_rfl) (fun _ _ _ h => h) ?hy53 (by assumption) ?hh53
        case hi53 => (simp only [List.getElem?_toArray, List.getElem?_cons_zero, List.getElem?_cons_succ]; rfl)
        case hf53 => kernel_rfl
        case hy53 =>
          refine Or.inl ⟨by rfl, ?_⟩
          intro w hSw
          (try dsimp only at hSw)
          go_simp
          try with_reducible rfl
        try simp only [Act.put, List.setIfInBounds_toArray, List.set_cons_zero, List.set_cons_succ]
        refine wpAnyH_take (i := 4) (oi := ?oo54) (v := ?vv54) ?hi54 (by kernel_rfl) ?hf54 (by kernel_rfl) (fun _ _ _ h => h) ?hy54 (by assumption) ?hh54
        case hi54 => (simp only [List.getElem?_toArray, List.getElem?_cons_zero, List.getElem?_cons_succ]; rfl)
        case hf54 => kernel_rfl
        case hy54 =>
          refine Or.inl ⟨by rfl, ?_⟩
          intro w hSw
          (try dsimp only at hSw)
          go_simp
          try with_reducible rfl
        try simp only [Act.put, List.setIfInBounds_toArray, List.set_cons_zero, List.set_cons_succ]
        refine wpAnyH_ready (rs := [2]) (by kernel_rfl) (by simp) (AllReadyH.cons rfl (fun K hK => ?_) AllReadyH.nil)
        go_simp
        (go_at_call 87; (with_reducible refine (H2.out _).mono ?_); rintro e x5 ⟨rfl, hb5⟩; have d0 := keep_cell (a := ⟨X, 0, none⟩) (v := .int .i64 live) hb5 (by simp [*]); have d1 := keep_cell (a := ⟨X, 1, none⟩) (v := .int .i64 eps) hb5 (by simp [*]); have d2 := keep_cell (a := ⟨X, 2, none⟩) (v := .bool true) hb5 (by simp [*]); (first | have hbw := below_next0 hbw hb5 | have hbw := below_next hbw hb5))
        go_wp2_with fail
        refine hK.out _ _ (by simp [*]) (fun hHeld => ?_)
        clear hK K
        try simp only [Act.put, List.setIfInBounds_toArray, List.set_cons_zero, List.set_cons_succ]
        refine wpAnyH_take (i := 5) (oi := ?oo55) (v := ?vv55) ?hi55 (by kernel_rfl) ?hf55 (by kernel_rfl) (fun _ _ _ h => h) ?hy55 (by assumption) ?hh55
        case hi55 => (simp only [List.getElem?_toArray, List.getElem?_cons_zero, List.getElem?_cons_succ]; rfl)
        case hf55 => kernel_rfl
        case hy55 =>
          refine Or.inl ⟨by rfl, ?_⟩
          intro w hSw
          (try dsimp only at hSw)
          go_simp
          try with_reducible rfl
        try simp only [Act.put, List.setIfInBounds_toArray, List.set_cons_zero, List.set_cons_succ]
        refine wpAnyH_take (i := 6) (oi := ?oo56) (v := ?vv56) ?hi56 (by kernel_rfl) ?hf56 (by kernel_rfl) (fun _ _ _ h => h) ?hy56 (by assumption) ?hh56
        case hi56 => (simp only [List.getElem?_toArray, List.getElem?_cons_zero, List.getElem?_cons_succ]; rfl)
        case hf56 => kernel_rfl
        case hy56 =>
          refine Or.inl ⟨by rfl, ?_⟩
          intro w hSw
          (try dsimp only at hSw)
          go_simp
          try with_reducible rfl
        try simp only [Act.put, List.setIfInBounds_toArray, List.set_cons_zero, List.set_cons_succ]
        refine wpAnyH_take (i := 7) (oi := ?oo57) (v := ?vv57) ?hi57 (by kernel_rfl) ?hf57 (by kernel_rfl) (fun _ _ _ h => h) ?hy57 (by assumption) ?hh57
        case hi57 => (simp only [List.getElem?_toArray, List.getElem?_cons_zero, List.getElem?_cons_succ]; rfl)
        case hf57 => kernel_rfl
        case hy57 =>
          refine Or.inl ⟨by rfl, ?_⟩
          intro w hSw
          (try dsimp only at hSw)
          go_simp
          try with_reducible rfl
        try simp only [Act.put, List.setIfInBounds_toArray, List.set_cons_zero, List.set_cons_succ]
        refine wpAnyH_take (i := 8) (oi := ?oo58) (v := ?vv58) ?hi58 (by kernel_rfl) ?hf58 (by kernel_rfl) (fun _ _ _ h => h) ?hy58 (by assumption) ?hh58
        case hi58 => (simp only [List.getElem?_toArray, List.getElem?_cons_zero, List.getElem?_cons_succ]; rfl)
        case hf58 => kernel_rfl
        case hy58 =>
          refine Or.inl ⟨by rfl, ?_⟩
          intro w hSw
          (try dsimp only at hSw)
          go_simp
          try with_reducible rfl
        try simp only [Act.put, List.setIfInBounds_toArray, List.set_cons_zero, List.set_cons_succ]
        refine wpAnyH_take (i := 9) (oi := ?oo59) (v := ?vv59) ?hi59 (by kernel_rfl) ?hf59 (by kernel_rfl) (fun _ _ _ h => h) ?hy59 (by assumption) ?hh59
        case hi59 => (simp only [List.getElem?_toArray, List.getElem?_cons_zero, List.getElem?_cons_succ]; rfl)
        case hf59 => kernel_rfl
        case hy59 =>
          refine Or.inl ⟨by rfl, ?_⟩
          intro w hSw
          (try dsimp only at hSw)
          go_simp
          try with_reducible rfl
        try simp only [Act.put, List.setIfInBounds_toArray, List.set_cons_zero, List.set_cons_succ]
        refine wpAnyH_take (i := 10) (oi := ?oo60) (v := ?vv60) ?hi60 (by kernel_rfl) ?hf60 (by kernel_rfl) (fun _ _ _ h => h) ?hy60 (by assumption) ?hh60
        case hi60 => (simp only [List.getElem?_toArray, List.getElem?_cons_zero, List.getElem?_cons_succ]; rfl)
        case hf60 => kernel_rfl
        case hy60 =>
          refine Or.inl ⟨by rfl, ?_⟩
          intro w hSw
          (try dsimp only at hSw)
          go_simp
          try with_reducible rfl
        try simp only [Act.put, List.setIfInBounds_toArray, List.set_cons_zero, List.set_cons_succ]
        refine wpAnyH_take (i := 11) (oi := ?oo61) (v := ?vv61) ?hi61 (by kernel_rfl) ?hf61 (by kernel_rfl) (fun _ _ _ h => h) ?hy61 (by assumption) ?hh61
        case hi61 => (simp only [List.getElem?_toArray, List.getElem?_cons_zero, List.getElem?_cons_succ]; rfl)
        case hf61 => kernel_rfl
        case hy61 =>
          refine Or.inl ⟨by rfl, ?_⟩
          intro w hSw
          (try dsimp only at hSw)
          go_simp
          try with_reducible rfl
        try simp only [Act.put, List.setIfInBounds_toArray, List.set_cons_zero, List.set_cons_succ]
        refine wpAnyH_take (i := 12) (oi := ?oo62) (v := ?vv62) ?hi62 (by kernel_rfl) ?hf62 (by kernel_rfl) (fun _ _ _ h => h) ?hy62 (by assumption) ?hh62
        case hi62 => (simp only [List.getElem?_toArray, List.getElem?_cons_zero, List.getElem?_cons_succ]; rfl)
        case hf62 => kernel_rfl
        case hy62 =>
          refine Or.inl ⟨by rfl, ?_⟩
          intro w hSw
          (try dsimp only at hSw)
          go_simp
          try with_reducible rfl
        try simp only [Act.put, List.setIfInBounds_toArray, List.set_cons_zero, List.set_cons_succ]
        refine wpAnyH_take (i := 13) (oi := ?oo63) (v := ?vv63) ?hi63 (by kernel_rfl) ?hf63 (by kernel_rfl) (fun _ _ _ h => h) ?hy63 (by assumption) ?hh63
        case hi63 => (simp only [List.getElem?_toArray, List.getElem?_cons_zero, List.getElem?_cons_succ]; rfl)
        case hf63 => kernel_rfl
        case hy63 =>
          refine Or.inl ⟨by rfl, ?_⟩
          intro w hSw
          (try dsimp only at hSw)
          go_simp
          try with_reducible rfl
        try simp only [Act.put, List.setIfInBounds_toArray, List.set_cons_zero, List.set_cons_succ]
        refine wpAnyH_take (i := 14) (oi := ?oo64) (v := ?vv64) ?hi64 (by kernel_rfl) ?hf64 (by kernel_rfl) (fun _ _ _ h => h) ?hy64 (by assumption) ?hh64
        case hi64 => (simp only [List.getElem?_toArray, List.getElem?_cons_zero, List.getElem?_cons_succ]; rfl)
        case hf64 => kernel_rfl
        case hy64 =>
          refine Or.inl ⟨by rfl, ?_⟩
          intro w hSw
          (try dsimp only at hSw)
          go_simp
          try with_reducible rfl
        try simp only [Act.put, List.setIfInBounds_toArray, List.set_cons_zero, List.set_cons_succ]
        refine wpAnyH_take (i := 15) (oi := ?oo65) (v := ?vv65) ?hi65 (by kernel_rfl) ?hf65 (by kernel_rfl) (fun _ _ _ h => h) ?hy65 (by assumption) ?hh65
        case hi65 => (simp only [List.getElem?_toArray, List.getElem?_cons_zero, List.getElem?_cons_succ]; rfl)
        case hf65 => kernel_rfl
        case hy65 =>
          refine Or.inl ⟨by rfl, ?_⟩
          intro w hSw
          (try dsimp only at hSw)
          go_simp
          try with_reducible rfl
        try simp only [Act.put, List.setIfInBounds_toArray, List.set_cons_zero, List.set_cons_succ]
        refine wpAnyH_take (i := 16) (oi := ?oo66) (v := ?vv66) ?hi66 (by kernel_rfl) ?hf66 (by kernel_rfl) (fun _ _ _ h => h) ?hy66 (by assumption) ?hh66
        case hi66 => (simp only [List.getElem?_toArray, List.getElem?_cons_zero, List.getElem?_cons_succ]; rfl)
        case hf66 => kernel_rfl
        case hy66 =>
          refine Or.inl ⟨by rfl, ?_⟩
          intro w hSw
          (try dsimp only at hSw)
          go_simp
          try with_reducible rfl
        try simp only [Act.put, List.setIfInBounds_toArray, List.set_cons_zero, List.set_cons_succ]
        refine wpAnyH_take (i := 17) (oi := ?oo67) (v := ?vv67) ?hi67 (by kernel_rfl) ?hf67 (by kernel_rfl) (fun _ _ _ h => h) ?hy67 (by assumption) ?hh67
        case hi67 => (simp only [List.getElem?_toArray, List.getElem?_cons_zero, List.getElem?_cons_succ]; rfl)
        case hf67 => kernel_rfl
        case hy67 =>
          refine Or.inl ⟨by rfl, ?_⟩
          intro w hSw
          (try dsimp only at hSw)
          go_simp
          try with_reducible rfl
        try simp only [Act.put, List.setIfInBounds_toArray, List.set_cons_zero, List.set_cons_succ]
        refine wpAnyH_take (i := 18) (oi := ?oo68) (v := undef) ?hi68 (by kernel_rfl) ?hf68 (by kernel_rfl) (fun _ _ _ h => h) ?hy68 (by assumption) ?hh68
        case hi68 => (simp only [List.getElem?_toArray, List.getElem?_cons_zero, List.getElem?_cons_succ]; rfl)
        case hf68 => kernel_rfl
        case hy68 => exact Or.inr ⟨by rfl, rfl⟩
        try simp only [Act.put, List.setIfInBounds_toArray, List.set_cons_zero, List.set_cons_succ]
        refine wpAnyH_take (i := 19) (oi := ?oo69) (v := undef) ?hi69 (by kernel_rfl) ?hf69 (by kernel_rfl) (fun _ _ _ h => h) ?hy69 (by assumption) ?hh69
        case hi69 => (simp only [List.getElem?_toArray, List.getElem?_cons_zero, List.getElem?_cons_succ]; rfl)
        case hf69 => kernel_rfl
        case hy69 => exact Or.inr ⟨by rfl, rfl⟩
        try simp only [Act.put, List.setIfInBounds_toArray, List.set_cons_zero, List.set_cons_succ]
        refine wpAnyH_take (i := 20) (oi := ?oo70) (v := undef) ?hi70 (by kernel_rfl) ?hf70 (by kernel_rfl) (fun _ _ _ h => h) ?hy70 (by assumption) ?hh70
        case hi70 => (simp only [List.getElem?_toArray, List.getElem?_cons_zero, List.getElem?_cons_succ]; rfl)
        case hf70 => kernel_rfl
        case hy70 => exact Or.inr ⟨by rfl, rfl⟩
        try simp only [Act.put, List.setIfInBounds_toArray, List.set_cons_zero, List.set_cons_succ]
        refine wpAnyH_take (i := 21) (oi := ?oo71) (v := undef) ?hi71 (by kernel_rfl) ?hf71 (by kernel_rfl) (fun _ _ _ h => h) ?hy71 (by assumption) ?hh71
        case hi71 => (simp only [List.getElem?_toArray, List.getElem?_cons_zero, List.getElem?_cons_succ]; rfl)
        case hf71 => kernel_rfl
        case hy71 => exact Or.inr ⟨by rfl, rfl⟩
        try simp only [Act.put, List.setIfInBounds_toArray, List.set_cons_zero, List.set_cons_succ]
        refine wpAnyH_take (i := 22) (oi := ?oo72) (v := undef) ?hi72 (by kernel_rfl) ?hf72 (by kernel_rfl) (fun _ _ _ h => h) ?hy72 (by assumption) ?hh72
        case hi72 => (simp only [List.getElem?_toArray, List.getElem?_cons_zero, List.getElem?_cons_succ]; rfl)
        case hf72 => kernel_rfl
        case hy72 => exact Or.inr ⟨by rfl, rfl⟩
        try simp only [Act.put, List.setIfInBounds_toArray, List.set_cons_zero, List.set_cons_succ]
        refine wpAnyH_take (i := 23) (oi := ?oo73) (v := undef) ?hi73 (by kernel_rfl) ?hf73 (by kernel_rfl) (fun _ _ _ h => h) ?hy73 (by assumption) ?hh73
        case hi73 => (simp only [List.getElem?_toArray, List.getElem?_cons_zero, List.getElem?_cons_succ]; rfl)
        case hf73 => kernel_rfl
        case hy73 => exact Or.inr ⟨by rfl, rfl⟩
        try simp only [Act.put, List.setIfInBounds_toArray, List.set_cons_zero, List.set_cons_succ]
        refine wpAnyH_take (i := 24) (oi := ?oo74) (v := ?vv74) ?hi74 (by kernel_rfl) ?hf74 (by kernel_rfl) (fun _ _ _ h => h) ?hy74 (by assumption) ?hh74
        case hi74 => (simp only [List.getElem?_toArray, List.getElem?_cons_zero, List.getElem?_cons_succ]; rfl)
        case hf74 => kernel_rfl
        case hy74 =>
          refine Or.inl ⟨by rfl, ?_⟩
          intro w hSw
          (try dsimp only at hSw)
          go_simp
          try with_reducible rfl
        try simp only [Act.put, List.setIfInBounds_toArray, List.set_cons_zero, List.set_cons_succ]
        refine wpAnyH_take (i := 25) (oi := ?oo75) (v := ?vv75) ?hi75 (by kernel_rfl) ?hf75 (by kernel_rfl) (fun _ _ _ h => h) ?hy75 (by assumption) ?hh75
        case hi75 => (simp only [List.getElem?_toArray, List.getElem?_cons_zero, List.getElem?_cons_succ]; rfl)
        case hf75 => kernel_rfl
        case hy75 =>
          refine Or.inl ⟨by rfl, ?_⟩
          intro w hSw
          (try dsimp only at hSw)
          go_simp
          try with_reducible rfl
        try simp only [Act.put, List.setIfInBounds_toArray, List.set_cons_zero, List.set_cons_succ]
        refine wpAnyH_done (by kernel_rfl) ?_ _
        refine NoPanic.normal ?_
        all_goals go_wp2
        all_goals go_roundw
        case rel => first | exact ⟨k + 1, by omega, by go_num, by first | exact hbw | exact pw_below_drewN hbw _⟩ | ((repeat apply Exists.intro); exact ⟨⟨k + 1, by omega, by go_num, by first | exact hbw | exact pw_below_drewN hbw _⟩, rfl⟩)
        case measure => simp [intOf]; omega
      · have H1 := Lib.hid f1'
        have H2 := Lib.hid f2'
        clear f1' hm
        go_wp2_with fail
        refine (H1.out _).mono ?_
        rintro r w2 ⟨rfl, hb2⟩
        have HX := (hb2.block wr.heap.size (by simp)).trans (heap_alloc_new wr (.cells #[.int .i64 live, .int .i64 eps, .bool false] 132))
        have hbx := (below_alloc hbw (.cells #[.int .i64 live, .int .i64 eps, .bool false] 132)).trans (hb2.mono (by have := hbw.size; simp; omega))
        clear hb2 hbw
        have c0 := blk_cell HX 0
        have c1 := blk_cell HX 1
        have c2 := blk_cell HX 2
        simp only [List.getElem?_toArray, List.getElem?_cons_zero, List.getElem?_cons_succ] at c0 c1 c2
        have hlX := blk_lt HX
        have hbw := hbx
        generalize wr.heap.size = X at *
        clear HX hbx f0 f1 f2
        go_wp2_with fail
        go_region_held3 (fun W => W.cell? ⟨X, 0, none⟩ = some (.int .i64 live) ∧ W.cell? ⟨X, 1, none⟩ = some (.int .i64 eps) ∧ W.cell? ⟨X, 2, none⟩ = some (.bool false)) (go_keep) ((go_at_call 87; (with_reducible refine (H2.out _).mono ?_); rintro e x5 ⟨rfl, hb5⟩; have d0 := keep_cell (a := ⟨X, 0, none⟩) (v := .int .i64 live) hb5 (by simp [*]); have d1 := keep_cell (a := ⟨X, 1, none⟩) (v := .int .i64 eps) hb5 (by simp [*]); have d2 := keep_cell (a := ⟨X, 2, none⟩) (v := .bool false) hb5 (by simp [*]); (first | have hbw := below_next0 hbw hb5 | have hbw := below_next hbw hb5)))
        all_goals go_wp2
        all_goals go_roundw
        case rel => first | exact ⟨k + 1, by omega, by go_num, by first | exact hbw | exact pw_below_drewN hbw _⟩ | ((repeat apply Exists.intro); exact ⟨⟨k + 1, by omega, by go_num, by first | exact hbw | exact pw_below_drewN hbw _⟩, rfl⟩)
        case measure => simp [intOf]; omega
    · have HB := Lib.hid (HB2.out.trans (hbw.mono HB2.out.size))
      obtain rfl : k = 7 := by omega
      clear hbw HB2 HR2 HAD hb2 hlt hk
      go_wp2_with fail
      refine (refused_yes ⟨#[]⟩ (by decide) 8 8 (by decide) (by decide) (by decide +kernel) (by decide +kernel) _).mono ?_
      rintro r w1 ⟨rfl, hq1⟩
      have HB := Lib.hid (below_next0 HB.out hq1)
      clear hq1
      go_wp2_with fail
      refine (refused_yes ⟨#[1, 114, 1, 0, 2]⟩ (by decide) 4 4 (by decide) (by decide) (by decide +kernel) (by decide +kernel) _).mono ?_
      rintro r w2 ⟨rfl, hq2⟩
      have HB := Lib.hid (below_next0 HB.out hq2)
      clear hq2
      go_wp2_with fail
      refine (refused_yes ⟨#[1, 114, 1, 0, 0, 0]⟩ (by decide) 4 4 (by decide) (by decide) (by decide +kernel) (by decide +kernel) _).mono ?_
      rintro r w3 ⟨rfl, hq3⟩
      have HB := Lib.hid (below_next0 HB.out hq3)
      clear hq3
      go_wp2_with fail
      refine (refused_yes ⟨#[25]⟩ (by decide) 40 8 (by decide) (by decide) (by decide +kernel) (by decide +kernel) _).mono ?_
      rintro r w4 ⟨rfl, hq4⟩
      have HB := Lib.hid (below_next0 HB.out hq4)
      clear hq4
      go_wp2_with fail
      refine (refused_yes ⟨#[0, 1, 0, 0]⟩ (by decide) 4 4 (by decide) (by decide) (by decide +kernel) (by decide +kernel) _).mono ?_
      rintro r w5 ⟨rfl, hq5⟩
      have HB := Lib.hid (below_next0 HB.out hq5)
      clear hq5
      go_wp2_with fail
      refine (refused_yes ⟨#[1, 114, 129, 128, 128, 128, 128, 32, 0, 0]⟩ (by decide) 40 4 (by decide) (by decide) (by decide +kernel) (by decide +kernel) _).mono ?_
      rintro r w6 ⟨rfl, hq6⟩
      have HB := Lib.hid (below_next0 HB.out hq6)
      clear hq6
      go_wp2_with fail
      refine (refused_yes ⟨#[129, 128, 64, 0]⟩ (by decide) 40 40 (by decide) (by decide) (by decide +kernel) (by decide +kernel) _).mono ?_
      rintro r w7 ⟨rfl, hq7⟩
      have HB := Lib.hid (below_next0 HB.out hq7)
      clear hq7
      have HB7 := Lib.hid HB.out
      clear HB
      go_wp2_with fail
      refine (readAs ⟨#[116, 47, 116]⟩ ⟨#[2, 7]⟩ (by decide) (by decide) ⟨#[116]⟩ ⟨#[]⟩ ⟨#[]⟩ 0 0 false 2 7 0 (by decide +kernel) _).mono ?_
      rintro e w8 ⟨rfl, hb8⟩
      have HB8 := Lib.hid ((HB7.out).trans (hb8.mono (by have := HB7.out.size; omega)))
      clear hb8
      go_wp2_with fail
      refine (readAs ⟨#[99, 47, 116, 47, 120]⟩ ⟨#[2, 7]⟩ (by decide) (by decide) ⟨#[]⟩ ⟨#[]⟩ ⟨#[]⟩ 0 0 false 0 0 8 (by decide +kernel) _).mono ?_
      rintro e w9 ⟨rfl, hb9⟩
      have HX9 := Lib.hid ((hb9.block (w8.heap.size) (by simp)).trans (heap_alloc_new w8 (.cells #[.string ⟨#[116]⟩, .string ⟨#[]⟩, .string ⟨#[]⟩, .int .i64 0, .int .i64 0, .bool false, .int .i64 2, .int .i64 7] 113)))
      have HB9 := Lib.hid ((below_alloc (HB8.out) (.cells #[.string ⟨#[116]⟩, .string ⟨#[]⟩, .string ⟨#[]⟩, .int .i64 0, .int .i64 0, .bool false, .int .i64 2, .int .i64 7] 113)).trans (hb9.mono (by have := HB8.out.size; simp; omega)))
      clear hb9
      go_wp2_with fail
      refine (readAs ⟨#[99, 47, 116]⟩ ⟨#[2, 7]⟩ (by decide) (by decide) ⟨#[]⟩ ⟨#[]⟩ ⟨#[]⟩ 0 0 false 0 0 1 (by decide +kernel) _).mono ?_
      rintro e w10 ⟨rfl, hb10⟩
      have HX10 := Lib.hid ((hb10.block _ (by have := blk_lt HX9.out; simp; omega)).trans (blk_alloc HX9.out (.cells #[.string ⟨#[]⟩, .string ⟨#[]⟩, .string ⟨#[]⟩, .int .i64 0, .int .i64 0, .bool false, .int .i64 0, .int .i64 0] 113)))
      have HY10 := Lib.hid ((hb10.block (w9.heap.size) (by simp)).trans (heap_alloc_new w9 (.cells #[.string ⟨#[]⟩, .string ⟨#[]⟩, .string ⟨#[]⟩, .int .i64 0, .int .i64 0, .bool false, .int .i64 0, .int .i64 0] 113)))
      have HB10 := Lib.hid ((below_alloc (HB9.out) (.cells #[.string ⟨#[]⟩, .string ⟨#[]⟩, .string ⟨#[]⟩, .int .i64 0, .int .i64 0, .bool false, .int .i64 0, .int .i64 0] 113)).trans (hb10.mono (by have := HB9.out.size; simp; omega)))
      clear hb10
      have hcX0 := blk_cell HX10.out 0
      have hcX1 := blk_cell HX10.out 1
      have hcX2 := blk_cell HX10.out 2
      have hcX3 := blk_cell HX10.out 3
      have hcX4 := blk_cell HX10.out 4
      have hcX5 := blk_cell HX10.out 5
      have hcX6 := blk_cell HX10.out 6
      have hcX7 := blk_cell HX10.out 7
      have hlX := blk_lt HX10.out
      simp only [List.getElem?_toArray, List.getElem?_cons_zero, List.getElem?_cons_succ] at hcX0 hcX1 hcX2 hcX3 hcX4 hcX5 hcX6 hcX7
      go_wp2_with fail
      refine (live_five ⟨#[116]⟩ 1 (by decide +kernel) _ _ (heap_alloc_at _ _ (by simp))).mono ?_
      rintro e w11 ⟨rfl, hb11⟩
      have HX11 := Lib.hid ((hb11.block _ (by have := blk_lt HX10.out; simp; omega)).trans (blk_alloc (blk_alloc HX10.out (.cells #[.string ⟨#[]⟩, .string ⟨#[]⟩, .string ⟨#[]⟩, .int .i64 0, .int .i64 0, .bool false, .int .i64 0, .int .i64 0] 113)) (.cells #[.string ⟨#[99, 47, 116, 47, 120]⟩, .string ⟨#[1, 114, 172, 2, 5, 0]⟩, .int .i64 0, .int .i64 0, .string ⟨#[99, 47, 116, 47, 121]⟩, .string ⟨#[1, 114, 172, 2, 5, 1]⟩, .int .i64 0, .int .i64 0, .string ⟨#[99, 47, 117, 47, 120]⟩, .string ⟨#[1, 114, 172, 2, 5, 0]⟩, .int .i64 0, .int .i64 0, .string ⟨#[116, 47, 116]⟩, .string ⟨#[2, 7]⟩, .int .i64 0, .int .i64 0, .string ⟨#[99, 47, 116, 47, 122]⟩, .string ⟨#[98, 97, 100]⟩, .int .i64 0, .int .i64 0] 62)))
      have HY11 := Lib.hid ((hb11.block _ (by have := blk_lt HY10.out; simp; omega)).trans (blk_alloc (blk_alloc HY10.out (.cells #[.string ⟨#[]⟩, .string ⟨#[]⟩, .string ⟨#[]⟩, .int .i64 0, .int .i64 0, .bool false, .int .i64 0, .int .i64 0] 113)) (.cells #[.string ⟨#[99, 47, 116, 47, 120]⟩, .string ⟨#[1, 114, 172, 2, 5, 0]⟩, .int .i64 0, .int .i64 0, .string ⟨#[99, 47, 116, 47, 121]⟩, .string ⟨#[1, 114, 172, 2, 5, 1]⟩, .int .i64 0, .int .i64 0, .string ⟨#[99, 47, 117, 47, 120]⟩, .string ⟨#[1, 114, 172, 2, 5, 0]⟩, .int .i64 0, .int .i64 0, .string ⟨#[116, 47, 116]⟩, .string ⟨#[2, 7]⟩, .int .i64 0, .int .i64 0, .string ⟨#[99, 47, 116, 47, 122]⟩, .string ⟨#[98, 97, 100]⟩, .int .i64 0, .int .i64 0] 62)))
      have HV11 := Lib.hid ((hb11.block (w10.heap.size) (by simp; omega)).trans (blk_alloc (heap_alloc_new w10 (.cells #[.string ⟨#[]⟩, .string ⟨#[]⟩, .string ⟨#[]⟩, .int .i64 0, .int .i64 0, .bool false, .int .i64 0, .int .i64 0] 113)) (.cells #[.string ⟨#[99, 47, 116, 47, 120]⟩, .string ⟨#[1, 114, 172, 2, 5, 0]⟩, .int .i64 0, .int .i64 0, .string ⟨#[99, 47, 116, 47, 121]⟩, .string ⟨#[1, 114, 172, 2, 5, 1]⟩, .int .i64 0, .int .i64 0, .string ⟨#[99, 47, 117, 47, 120]⟩, .string ⟨#[1, 114, 172, 2, 5, 0]⟩, .int .i64 0, .int .i64 0, .string ⟨#[116, 47, 116]⟩, .string ⟨#[2, 7]⟩, .int .i64 0, .int .i64 0, .string ⟨#[99, 47, 116, 47, 122]⟩, .string ⟨#[98, 97, 100]⟩, .int .i64 0, .int .i64 0] 62)))
      have HZ11 := Lib.hid ((hb11.block (w10.heap.size + 1) (by simp)).trans (heap_alloc_at (w10.alloc (.cells #[.string ⟨#[]⟩, .string ⟨#[]⟩, .string ⟨#[]⟩, .int .i64 0, .int .i64 0, .bool false, .int .i64 0, .int .i64 0] 113)) (.cells #[.string ⟨#[99, 47, 116, 47, 120]⟩, .string ⟨#[1, 114, 172, 2, 5, 0]⟩, .int .i64 0, .int .i64 0, .string ⟨#[99, 47, 116, 47, 121]⟩, .string ⟨#[1, 114, 172, 2, 5, 1]⟩, .int .i64 0, .int .i64 0, .string ⟨#[99, 47, 117, 47, 120]⟩, .string ⟨#[1, 114, 172, 2, 5, 0]⟩, .int .i64 0, .int .i64 0, .string ⟨#[116, 47, 116]⟩, .string ⟨#[2, 7]⟩, .int .i64 0, .int .i64 0, .string ⟨#[99, 47, 116, 47, 122]⟩, .string ⟨#[98, 97, 100]⟩, .int .i64 0, .int .i64 0] 62) (n := w10.heap.size + 1) (by simp)))
      have HB11 := Lib.hid ((below_alloc (below_alloc (HB10.out) (.cells #[.string ⟨#[]⟩, .string ⟨#[]⟩, .string ⟨#[]⟩, .int .i64 0, .int .i64 0, .bool false, .int .i64 0, .int .i64 0] 113)) (.cells #[.string ⟨#[99, 47, 116, 47, 120]⟩, .string ⟨#[1, 114, 172, 2, 5, 0]⟩, .int .i64 0, .int .i64 0, .string ⟨#[99, 47, 116, 47, 121]⟩, .string ⟨#[1, 114, 172, 2, 5, 1]⟩, .int .i64 0, .int .i64 0, .string ⟨#[99, 47, 117, 47, 120]⟩, .string ⟨#[1, 114, 172, 2, 5, 0]⟩, .int .i64 0, .int .i64 0, .string ⟨#[116, 47, 116]⟩, .string ⟨#[2, 7]⟩, .int .i64 0, .int .i64 0, .string ⟨#[99, 47, 116, 47, 122]⟩, .string ⟨#[98, 97, 100]⟩, .int .i64 0, .int .i64 0] 62)).trans (hb11.mono (by have := HB10.out.size; simp; omega)))
      clear hb11
      go_wp2_with fail
      refine (live_five ⟨#[117]⟩ 1 (by decide +kernel) _ _ (HZ11.out)).mono ?_
      rintro e w12 ⟨rfl, hb12⟩
      have HX12 := Lib.hid ((hb12.block _ (by have := blk_lt HX11.out; exact this)).trans HX11.out)
      have HY12 := Lib.hid ((hb12.block _ (by have := blk_lt HY11.out; exact this)).trans HY11.out)
      have HV12 := Lib.hid ((hb12.block _ (by have := blk_lt HV11.out; exact this)).trans HV11.out)
      have HZ12 := Lib.hid ((hb12.block _ (by have := blk_lt HZ11.out; exact this)).trans HZ11.out)
      have HB12 := Lib.hid ((HB11.out).trans (hb12.mono (by have := HB11.out.size; omega)))
      clear hb12
      go_wp2_with fail
      refine (live_five ⟨#[118]⟩ 0 (by decide +kernel) _ _ (HZ12.out)).mono ?_
      rintro e w13 ⟨rfl, hb13⟩
      have HX13 := Lib.hid ((hb13.block _ (by have := blk_lt HX12.out; exact this)).trans HX12.out)
      have HY13 := Lib.hid ((hb13.block _ (by have := blk_lt HY12.out; exact this)).trans HY12.out)
      have HV13 := Lib.hid ((hb13.block _ (by have := blk_lt HV12.out; exact this)).trans HV12.out)
      have HZ13 := Lib.hid ((hb13.block _ (by have := blk_lt HZ12.out; exact this)).trans HZ12.out)
      have HB13 := Lib.hid ((HB12.out).trans (hb13.mono (by have := HB12.out.size; omega)))
      clear hb13
      go_wp2_with fail
      refine (live_nil ⟨#[116]⟩ _).mono ?_
      rintro e w14 ⟨rfl, hb14⟩
      have HX14 := Lib.hid ((hb14.block _ (by have := blk_lt HX13.out; exact this)).trans HX13.out)
      have HY14 := Lib.hid ((hb14.block _ (by have := blk_lt HY13.out; exact this)).trans HY13.out)
      have HV14 := Lib.hid ((hb14.block _ (by have := blk_lt HV13.out; exact this)).trans HV13.out)
      have HZ14 := Lib.hid ((hb14.block _ (by have := blk_lt HZ13.out; exact this)).trans HZ13.out)
      have HB14 := Lib.hid ((HB13.out).trans (hb14.mono (by have := HB13.out.size; omega)))
      clear hb14
      go_wp2
      go_ret
      exact ⟨by first | rfl | (simp; done), HB14.out⟩
end Go.Proofs.Ytobanhbjkomieaa.RP
