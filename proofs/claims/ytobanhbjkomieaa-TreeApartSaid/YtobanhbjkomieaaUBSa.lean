import Derived.Test.YtobanhbjkomieaaTYSa
import Derived.Test.YtobanhbjkomieaaPAllx0Sa
import Derived.Test.YtobanhbjkomieaaRXSa
import Derived.Deep.Strs
import Derived.Lib.SmallJoins
section
namespace Go.Proofs.Ytobanhbjkomieaa.TA
open Go Go.RowKit Go.Proofs.Ytobanhbjkomieaa.KP Go.Proofs.YtobanhbjkomieaaW.PrintWords Go.Proofs.YtobanhbjkomieaaW.PrintLast Go.Proofs.YtobanhbjkomieaaW.PrintMore
open Go.Proofs.Ytobanhbjkomieaa.RP (wTake wSkip wOne wpAnyH_cast below_next0)
set_option linter.unusedSimpArgs false
set_option linter.unusedVariables false
theorem C_one {α : Type} {d : Kd α} {w : World} {g : Nat} {cs : List Value} {T : TypeId} {x : α} (hK : d.K w x cs) (h : w.heap[g]? = some (.cells cs.toArray T (0, 0))) : Kd.C d w (some ⟨g, 0, none⟩) [x].length [x] := by
  refine ⟨rfl, by simp, fun _ => ⟨_, rfl, fun j p hj => ?_⟩⟩
  cases j with
  | zero =>
    obtain rfl : x = p := Option.some.inj hj
    refine ⟨cs, d.K_len hK, hK, fun i u hi => ?_⟩
    rw [Nat.zero_mul, Nat.zero_add]
    exact World.news_of_block (cs := cs.toArray) (t := T) (fr := (0, 0)) h i u (by simpa using hi)
  | succ j => cases hj
theorem szC0 : ∀ x ∈ ([] : List Cnd), x.key.size ≤ 9223372036854775807 := by simp
theorem szC1 {k : ByteArray} {n : Int} (h : k.size ≤ 9223372036854775807) : ∀ x ∈ [Cnd.mk k n], x.key.size ≤ 9223372036854775807 := by
  intro x hx
  obtain rfl := List.mem_singleton.1 hx
  exact h
theorem szO1 {d : Bool} {k v : ByteArray} (h : k.size ≤ 9223372036854775807) : ∀ x ∈ [Opn.mk d k v], x.key.size ≤ 9223372036854775807 := by
  intro x hx
  obtain rfl := List.mem_singleton.1 hx
  exact h
set_option maxHeartbeats 8000000 in
set_option maxRecDepth 100000 in
theorem treeAwake_any (w : World) : Calls Try.prog 39 #[] w fun e w' => e = .returned (.bool true) ∧ Below w.heap.size w w' := by
  go_enter Try.func39, Try.ntmps39
  go_wp2_with fail
  refine (new_any w).mono ?_
  rintro e w1 ⟨g, rfl, hg, hA, hb⟩
  have Gg_1 := Lib.hid (Nat.le_trans (Below.refl w.heap.size w).size hg)
  have B_2 := Lib.hid (below_next0 (Below.refl w.heap.size w) hb)
  have Ag_3 := Lib.hid (hA)
  clear hg hA hb
  go_wp2_with fail
  refine (lput_any bA bX none 0 0 w1).mono ?_
  rintro e w2 ⟨p1, rfl, _, hN, hb⟩
  have Ag_4 := Lib.hid (Ag_3.out.below hb)
  have B_5 := Lib.hid (below_next0 B_2.out hb)
  have Hp1_6 := Lib.hid (hN)
  clear hN hb
  go_wp2_with fail
  refine (does_any g AT.nil (Md.new) none 0 w2 Ag_4.out none 0 [] (some ⟨p1, 0, none⟩) 1 [⟨false, bA, bX⟩] (by simp) (Kd.C_nil _ _) (by simp) (C_one (kOpn_mk _ ⟨false, bA, bX⟩) Hp1_6.out) ⟨szC0, szO1 (by decide)⟩ (by decide) (by decide) 1 1 (by rw [awD1]) (by rw [awD1]) (by rw [awD1]; rfl) (by rw [awD1]; rfl)).mono ?_
  rintro e w3 ⟨t_7, ad_8, c_9, rfl, hA, hK⟩
  have Hp1_10 := Lib.hid (hK.blk Hp1_6.out (far_type Ag_4.out.blk Hp1_6.out (by decide)))
  have B_11 := Lib.hid (Kb.below B_5.out hK Gg_1.out B_5.out.size)
  rw [awD1] at hA
  have Ag_12 := Lib.hid (hA)
  clear hA hK
  go_wp2_with fail
  refine (has_any g t_7 (aw1) ad_8 c_9 w3 Ag_12.out bA bX 1 1 (by simp [getL, aw1])).mono ?_
  rintro e w4 ⟨rfl, hb⟩
  have Ag_13 := Lib.hid (Ag_12.out.below hb)
  have B_14 := Lib.hid (below_next0 B_11.out hb)
  clear hb
  go_wp2_with fail
  obtain ⟨q2, hq2⟩ : ∃ X, X = w4.heap.size := ⟨_, rfl⟩
  try rw [← hq2]
  have hb : Below w4.heap.size w4 (w4.alloc (.cells #[.string bA, .int .i64 1] 73)) := below_alloc (Below.refl _ _) _
  have hN : (w4.alloc (.cells #[.string bA, .int .i64 1] 73)).heap[q2]? = some (.cells #[.string bA, .int .i64 1] 73 (0, 0)) := hq2 ▸ heap_alloc_new w4 (.cells #[.string bA, .int .i64 1] 73)
  clear hq2
  generalize w4.alloc (.cells #[.string bA, .int .i64 1] 73) = w5 at *
  have Ag_15 := Lib.hid (Ag_13.out.below hb)
  have B_16 := Lib.hid (below_next0 B_14.out hb)
  clear hb
  have Hq2_17 := Lib.hid (hN)
  clear hN
  refine (lput_any bA bY (some ⟨q2, 0, none⟩) 1 1 w5).mono ?_
  rintro e w6 ⟨p2, rfl, _, hN, hb⟩
  have Ag_18 := Lib.hid (Ag_15.out.below hb)
  have Hq2_19 := Lib.hid ((hb.block _ (blk_lt Hq2_17.out)).trans Hq2_17.out)
  have B_20 := Lib.hid (below_next0 B_16.out hb)
  have Hp2_21 := Lib.hid (hN)
  clear hN hb
  go_wp2_with fail
  refine (does_any g t_7 (aw1) ad_8 c_9 w6 Ag_18.out (some ⟨q2, 0, none⟩) 1 [⟨bA, 1⟩] (some ⟨p2, 0, none⟩) 1 [⟨false, bA, bY⟩] (by simp) (C_one (kCnd_mk _ ⟨bA, 1⟩) Hq2_19.out) (by simp) (C_one (kOpn_mk _ ⟨false, bA, bY⟩) Hp2_21.out) ⟨szC1 (by decide), szO1 (by decide)⟩ (by decide) (by decide) 1 2 (by rw [awD2]) (by rw [awD2]) (by rw [awD2]; rfl) (by rw [awD2]; rfl)).mono ?_
  rintro e w7 ⟨t_22, ad_23, c_24, rfl, hA, hK⟩
  have Hq2_25 := Lib.hid (hK.blk Hq2_19.out (far_type Ag_18.out.blk Hq2_19.out (by decide)))
  have Hp2_26 := Lib.hid (hK.blk Hp2_21.out (far_type Ag_18.out.blk Hp2_21.out (by decide)))
  have B_27 := Lib.hid (Kb.below B_20.out hK Gg_1.out B_20.out.size)
  rw [awD2] at hA
  have Ag_28 := Lib.hid (hA)
  clear hA hK
  go_wp2_with fail
  refine (has_any g t_22 (aw2) ad_23 c_24 w7 Ag_28.out bA bY 1 2 (by simp [getL, aw2])).mono ?_
  rintro e w8 ⟨rfl, hb⟩
  have Ag_29 := Lib.hid (Ag_28.out.below hb)
  have B_30 := Lib.hid (below_next0 B_27.out hb)
  clear hb
  go_wp2_with fail
  obtain ⟨q3, hq3⟩ : ∃ X, X = w8.heap.size := ⟨_, rfl⟩
  try rw [← hq3]
  have hb : Below w8.heap.size w8 (w8.alloc (.cells #[.string bA, .int .i64 1] 73)) := below_alloc (Below.refl _ _) _
  have hN : (w8.alloc (.cells #[.string bA, .int .i64 1] 73)).heap[q3]? = some (.cells #[.string bA, .int .i64 1] 73 (0, 0)) := hq3 ▸ heap_alloc_new w8 (.cells #[.string bA, .int .i64 1] 73)
  clear hq3
  generalize w8.alloc (.cells #[.string bA, .int .i64 1] 73) = w9 at *
  have Ag_31 := Lib.hid (Ag_29.out.below hb)
  have B_32 := Lib.hid (below_next0 B_30.out hb)
  clear hb
  have Hq3_33 := Lib.hid (hN)
  clear hN
  refine (lput_any bA bZ (some ⟨q3, 0, none⟩) 1 1 w9).mono ?_
  rintro e w10 ⟨p3, rfl, _, hN, hb⟩
  have Ag_34 := Lib.hid (Ag_31.out.below hb)
  have Hq3_35 := Lib.hid ((hb.block _ (blk_lt Hq3_33.out)).trans Hq3_33.out)
  have B_36 := Lib.hid (below_next0 B_32.out hb)
  have Hp3_37 := Lib.hid (hN)
  clear hN hb
  go_wp2_with fail
  have hcall := do_any g t_22 (aw2) ad_23 c_24 w10 Ag_34.out (some ⟨q3, 0, none⟩) 1 [⟨bA, 1⟩] (some ⟨p3, 0, none⟩) 1 [⟨false, bA, bZ⟩] (by simp) (C_one (kCnd_mk _ ⟨bA, 1⟩) Hq3_35.out) (by simp) (C_one (kOpn_mk _ ⟨false, bA, bZ⟩) Hp3_37.out) ⟨szC1 (by decide), szO1 (by decide)⟩ (by decide) (by decide)
  rw [awD3] at hcall
  refine hcall.mono ?_
  clear hcall
  rintro e w11 ⟨V, t9, ad9, c9, rfl, hR, hA, hK⟩
  obtain ⟨A8, c8, rfl⟩ := Kd.R_slice hR
  clear hR
  have B_38 := Lib.hid (Kb.below B_36.out hK Gg_1.out B_36.out.size)
  have Ag_39 := Lib.hid (hA)
  clear hA hK
  go_wp2_with fail
  obtain ⟨p4, hp4⟩ : ∃ X, X = w11.heap.size := ⟨_, rfl⟩
  try rw [← hp4]
  have hb : Below w11.heap.size w11 (w11.alloc (.cells #[.bool true, .string bB, .string ⟨#[]⟩] 85)) := below_alloc (Below.refl _ _) _
  have hN : (w11.alloc (.cells #[.bool true, .string bB, .string ⟨#[]⟩] 85)).heap[p4]? = some (.cells #[.bool true, .string bB, .string ⟨#[]⟩] 85 (0, 0)) := hp4 ▸ heap_alloc_new w11 (.cells #[.bool true, .string bB, .string ⟨#[]⟩] 85)
  clear hp4
  generalize w11.alloc (.cells #[.bool true, .string bB, .string ⟨#[]⟩] 85) = w12 at *
  have Ag_40 := Lib.hid (Ag_39.out.below hb)
  have B_41 := Lib.hid (below_next0 B_38.out hb)
  clear hb
  have Hp4_42 := Lib.hid (hN)
  clear hN
  refine (does_any g t9 (aw2) ad9 c9 w12 Ag_40.out none 0 [] (some ⟨p4, 0, none⟩) 1 [⟨true, bB, ⟨#[]⟩⟩] (by simp) (Kd.C_nil _ _) (by simp) (C_one (kOpn_mk _ ⟨true, bB, ⟨#[]⟩⟩) Hp4_42.out) ⟨szC0, szO1 (by decide)⟩ (by decide) (by decide) 0 3 (by rw [awD4]) (by rw [awD4]) (by rw [awD4]; rfl) (by rw [awD4]; rfl)).mono ?_
  rintro e w13 ⟨t_43, ad_44, c_45, rfl, hA, hK⟩
  have Hp4_46 := Lib.hid (hK.blk Hp4_42.out (far_type Ag_40.out.blk Hp4_42.out (by decide)))
  have B_47 := Lib.hid (Kb.below B_41.out hK Gg_1.out B_41.out.size)
  rw [awD4] at hA
  have Ag_48 := Lib.hid (hA)
  clear hA hK
  go_wp2_with fail
  have hcall := lsince_any g t_43 (aw4) ad_44 c_45 w13 Ag_48.out 2 (by decide)
  rw [awS4] at hcall
  refine hcall.mono ?_
  clear hcall
  rintro e w14 ⟨rfl, hb⟩
  have Ag_49 := Lib.hid (Ag_48.out.below hb)
  have B_50 := Lib.hid (below_next0 B_47.out hb)
  clear hb
  go_wp2_with fail
  have hcall := cut_any g t_43 (aw4) ad_44 c_45 w14 Ag_49.out 2 (by decide)
  rw [awC] at hcall
  refine hcall.mono ?_
  clear hcall
  rintro e w15 ⟨ad10, c10, rfl, hA, hK⟩
  have B_51 := Lib.hid (Kb.below B_50.out hK Gg_1.out B_50.out.size)
  have Ag_52 := Lib.hid (hA)
  clear hA hK
  go_wp2_with fail
  have hcall := lsince_any g t_43 (aw5) ad10 c10 w15 Ag_52.out 2 (by decide)
  rw [awS5a] at hcall
  refine hcall.mono ?_
  clear hcall
  rintro e w16 ⟨rfl, hb⟩
  have Ag_53 := Lib.hid (Ag_52.out.below hb)
  have B_54 := Lib.hid (below_next0 B_51.out hb)
  clear hb
  go_wp2_with fail
  have hcall := lsince_any g t_43 (aw5) ad10 c10 w16 Ag_53.out 3 (by decide)
  rw [awS5b] at hcall
  refine hcall.mono ?_
  clear hcall
  rintro e w17 ⟨rfl, hb⟩
  have Ag_55 := Lib.hid (Ag_53.out.below hb)
  have B_56 := Lib.hid (below_next0 B_54.out hb)
  clear hb
  go_wp2_with fail
  have hcall := lsince_any g t_43 (aw5) ad10 c10 w17 Ag_55.out 5 (by decide)
  rw [awS5c] at hcall
  refine hcall.mono ?_
  clear hcall
  rintro e w18 ⟨rfl, hb⟩
  have Ag_57 := Lib.hid (Ag_55.out.below hb)
  have B_58 := Lib.hid (below_next0 B_56.out hb)
  clear hb
  go_wp2
  go_ret
  exact ⟨rfl, B_58.out⟩
end Go.Proofs.Ytobanhbjkomieaa.TA
end
section
namespace Go.Proofs.Ytobanhbjkomieaa.OP
open Go.ChangeShapes Go.WideShapes Go.Deep Go.Proofs.YtobanhbjkomieaaW.PrintWords
set_option linter.unusedSimpArgs false
set_option linter.unusedVariables false
structure Opens {α : Type} (P : Program) (w : World) (t : TypeId) (d : Kd α) (ok : α → Prop) : Prop where
  size : P.cellsOf t = d.sz
  gives : ∀ (H : Type) (enc : TypeId × Value → H) (base : Nat) (spare : Nat → Bool) (held : Bool) (fuel : Nat) (cs : List Value) (x : DataW H × List MemPlace), DataW.trod enc P w base spare held fuel t cs = some x → ∃ a, d.K w a cs ∧ ok a
section
variable {P : Program} {w : World}
theorem opens_int {t : TypeId} {k : IntKind} (h : P.underlying t = some (.int k)) (hc : P.cellsOf t = 1) : Opens P w t (Kd.int k) (fun n => (Lit.int k n).wf = true) where
  size := hc
  gives _ _ _ _ _ _ _ _ hx := by
    obtain ⟨n, rfl, _, hw⟩ := DataW.trod_int h hx
    exact ⟨n, rfl, hw⟩
theorem opens_bool {t : TypeId} (h : P.underlying t = some .bool) (hc : P.cellsOf t = 1) : Opens P w t Kd.bool (fun _ => True) where
  size := hc
  gives _ _ _ _ _ _ _ _ hx := by
    obtain ⟨n, rfl, _⟩ := DataW.trod_bool h hx
    exact ⟨n, rfl, trivial⟩
theorem opens_string {t : TypeId} (h : P.underlying t = some .string) (hc : P.cellsOf t = 1) : Opens P w t Kd.string (fun s => s.size ≤ maxLen) where
  size := hc
  gives _ _ _ _ _ _ _ _ hx := by
    obtain ⟨n, rfl, _, hw⟩ := DataW.trod_string h hx
    exact ⟨n, rfl, hw⟩
theorem opens_slice {α : Type} {t e : TypeId} {d : Kd α} {ok : α → Prop} (he : Opens P w e d ok) (h : P.underlying t = some (.slice e)) (hc : P.cellsOf t = 1) :
    Opens P w t (Kd.slice e d) (fun l => (∀ x ∈ l, ok x) ∧ l.length ≤ maxLen) where
  size := hc
  gives H enc base spare held fuel cs x hx := by
    rcases open_slice h hx with ⟨rfl, _⟩ | ⟨a, len, cap, m, n, D, Pl, rfl, _, hl, hm, hmm, _, hel⟩
    · exact ⟨[], ⟨none, 0, rfl, Nat.le_refl _, rfl, by simp, fun h => absurd h (by simp)⟩, by simp, by simp⟩
    · have hlm : len ≤ m := by rw [hmm]; split <;> omega
      have each : ∀ i : Fin len, ∃ y : α, ok y ∧ ∃ c, c.length = d.sz ∧ d.K w y c ∧ ∀ j u, c[j]? = some u → w.cell? (a.add (i.val * d.sz + j)) = some u := fun i => by
        obtain ⟨c, hc1, hc2⟩ := hel i.val (by omega)
        obtain ⟨y, hy, hok⟩ := he.gives _ _ _ _ _ _ _ _ hc2
        obtain ⟨_, hcl, hcc⟩ := World.cells?_some hc1
        rw [he.size] at hcl hcc
        refine ⟨y, hok, c, hcl, hy, fun j u hj => ?_⟩
        have hjl : j < d.sz := by have := (List.getElem?_eq_some_iff.1 hj).1; omega
        rw [← Deep.add_add, hcc j hjl, hj]
      refine ⟨List.ofFn fun i => Classical.choose (each i), ⟨some a, cap, ?_, ?_, ?_, ?_, fun hp => ⟨a, rfl, fun j p hj => ?_⟩⟩, fun x hx => ?_, ?_⟩
      · rw [List.length_ofFn]
      · rw [List.length_ofFn]; exact hl
      · rfl
      · rw [List.length_ofFn]; unfold maxLen at hm; omega
      · have hjl : j < len := by have := (List.getElem?_eq_some_iff.1 hj).1; rwa [List.length_ofFn] at this
        rw [List.getElem?_ofFn, dif_pos hjl] at hj
        injection hj with hj
        subst hj
        obtain ⟨_, c, h1, h2, h3⟩ := Classical.choose_spec (each ⟨j, hjl⟩)
        exact ⟨c, h1, h2, h3⟩
      · obtain ⟨i, rfl⟩ := List.mem_ofFn.1 hx
        exact (Classical.choose_spec (each i)).1
      · rw [List.length_ofFn]; omega
def Seg {α : Type} (P : Program) (w : World) (fs : List Field) (o : Nat) (d : Kd α) (ok : α → Prop) : Prop :=
  ∀ (H : Type) (enc : TypeId × Value → H) (base : Nat) (spare : Nat → Bool) (held : Bool) (fuel : Nat) (cs : List Value), cs.length = o + d.sz →
    (∀ f ∈ fs, ∃ y, DataW.trod enc P w base spare held fuel f.type ((cs.drop f.offset).take (P.cellsOf f.type)) = some y) → ∃ a, d.K w a (cs.drop o) ∧ ok a
theorem seg_one {α : Type} {f : Field} {d : Kd α} {ok : α → Prop} (h : Opens P w f.type d ok) {o : Nat} (ho : f.offset = o) : Seg P w [f] o d ok := by
  intro H enc base spare held fuel cs hl hf
  obtain ⟨y, hy⟩ := hf f (by simp)
  rw [ho, h.size, List.take_of_length_le (by rw [List.length_drop]; omega)] at hy
  exact h.gives _ _ _ _ _ _ _ _ hy
theorem seg_cons {α β : Type} {f : Field} {fs : List Field} {d : Kd α} {d' : Kd β} {ok : α → Prop} {ok' : β → Prop} (h : Opens P w f.type d ok) {o : Nat} (ho : f.offset = o) (hs : Seg P w fs (o + d.sz) d' ok') :
    Seg P w (f :: fs) o (Kd.pair d d') (fun x => ok x.1 ∧ ok' x.2) := by
  intro H enc base spare held fuel cs hl hf
  obtain ⟨y, hy⟩ := hf f (by simp)
  rw [ho, h.size] at hy
  obtain ⟨a, ha, hok⟩ := h.gives _ _ _ _ _ _ _ _ hy
  have hl' : cs.length = o + (d.sz + d'.sz) := hl
  obtain ⟨b, hb, hok'⟩ := hs H enc base spare held fuel cs (by omega) (fun g hg => hf g (by simp [hg]))
  refine ⟨(a, b), ⟨_, _, ?_, ha, hb⟩, hok, hok'⟩
  rw [← List.drop_drop, List.take_append_drop]
theorem opens_struct {α : Type} {t : TypeId} {fs : Array Field} {d : Kd α} {ok : α → Prop} (h : P.underlying t = some (.struct fs)) (hc : P.cellsOf t = d.sz) (hs : Seg P w fs.toList 0 d ok) : Opens P w t d ok where
  size := hc
  gives H enc base spare held fuel cs x hx := by
    obtain ⟨xs, n, _, _, hl, hlen, hf⟩ := DataW.trod_struct h hx
    have := hs H enc base spare held n cs (by omega) (fun f hfm => by
      obtain ⟨i, hi, rfl⟩ := List.getElem_of_mem hfm
      have hi' : i < fs.size := by simpa using hi
      refine ⟨xs[i], ?_⟩
      rw [hf i _ (by simp [hi']), List.getElem?_eq_getElem (by omega)])
    simpa using this
theorem opens_iso {α β : Type} {t : TypeId} {d : Kd α} {ok : α → Prop} (h : Opens P w t d ok) (f : β → α) (g : α → β) (hfg : ∀ a, f (g a) = a) : Opens P w t (Kd.iso d f) (fun b => ok (f b)) where
  size := h.size
  gives H enc base spare held fuel cs x hx := by
    obtain ⟨a, ha, hok⟩ := h.gives _ _ _ _ _ _ _ _ hx
    exact ⟨g a, by show d.K w (f (g a)) cs; rwa [hfg], by rwa [hfg]⟩
theorem opens_ok {α : Type} {t : TypeId} {d : Kd α} {ok ok' : α → Prop} (h : Opens P w t d ok) (hk : ∀ a, ok a → ok' a) : Opens P w t d ok' where
  size := h.size
  gives H enc base spare held fuel cs x hx := by
    obtain ⟨a, ha, hok⟩ := h.gives _ _ _ _ _ _ _ _ hx
    exact ⟨a, ha, hk a hok⟩
theorem arg_slice {α H : Type} {enc : TypeId × Value → H} {base base' : Nat} {spare : Nat → Bool} {held : Bool} {r : Reach} {t e : TypeId} {d : Kd α} {ok : List α → Prop} {v : Value} {x : DataW H} {p : List MemPlace} (ho : Opens P w t (Kd.slice e d) ok)
    (ht : P.underlying t = some (.slice e)) (hv : Value.okWide P w r base' t v) (h : DataW.Trod enc P w base spare held t v x p) : ∃ A c l, v = .slice A l.length c ∧ l.length ≤ c ∧ d.C w A l.length l ∧ ok l := by
  obtain ⟨A, n, c, rfl⟩ := okWide_slice ht hv
  obtain ⟨k, hk⟩ := h
  obtain ⟨l, ⟨A', c', he, hl, hC⟩, hok⟩ := ho.gives _ _ _ _ _ _ _ _ hk
  have he' : Value.slice A n c = Value.slice A' l.length c' := by simpa [Value.cells] using he
  injection he' with h1 h2 h3
  subst h1 h2 h3
  exact ⟨A, c, l, rfl, hl, hC, hok⟩
end
end Go.Proofs.Ytobanhbjkomieaa.OP
end
section
namespace Go.Proofs.Ytobanhbjkomieaa.OP
open Go.ChangeShapes Go.WideShapes Go.Deep Go.Proofs.YtobanhbjkomieaaW.PrintWords
set_option linter.unusedSimpArgs false
set_option linter.unusedVariables false
abbrev I64 : Kd Int := Kd.int .i64
abbrev wf64 (n : Int) : Prop := (Lit.int .i64 n).wf = true
abbrev small (s : ByteArray) : Prop := s.size ≤ maxLen
end Go.Proofs.Ytobanhbjkomieaa.OP
end
section
namespace Go.Proofs.Ytobanhbjkomieaa.OP
open Go.ChangeShapes Go.WideShapes Go.Deep Go.Proofs.YtobanhbjkomieaaW.PrintWords
set_option linter.unusedSimpArgs false
set_option linter.unusedVariables false
set_option maxRecDepth 100000 in
theorem opens_CondT (w : World) : Opens Try.prog w 73 PTr.k73 (fun x => small x.f0 ∧ wf64 x.f1) :=
  opens_iso (opens_struct (d := Kd.pair Kd.string I64) (ok := fun x => small x.1 ∧ wf64 x.2) Try.underlying73 (by kernel_rfl) (seg_cons (opens_string Try.underlying9 (by kernel_rfl)) rfl (seg_one (opens_int Try.underlying2 (by kernel_rfl)) rfl)))
    (fun x : PTr.S73 => (x.f0, x.f1)) (fun a => ⟨a.1, a.2⟩) (fun _ => rfl)
set_option maxRecDepth 100000 in
theorem opens_OpT (w : World) : Opens Try.prog w 85 PTr.k85 (fun x => True ∧ small x.f1 ∧ small x.f2) :=
  opens_iso (opens_struct (d := Kd.pair Kd.bool (Kd.pair Kd.string Kd.string)) (ok := fun x => True ∧ small x.2.1 ∧ small x.2.2) Try.underlying85 (by kernel_rfl) (seg_cons (opens_bool Try.underlying4 (by kernel_rfl)) rfl (seg_cons (opens_string Try.underlying9 (by kernel_rfl)) rfl (seg_one (opens_string Try.underlying9 (by kernel_rfl)) rfl))))
    (fun x : PTr.S85 => (x.f0, x.f1, x.f2)) (fun a => ⟨a.1, a.2.1, a.2.2⟩) (fun _ => rfl)
set_option maxRecDepth 100000 in
theorem opens_Txn (w : World) : Opens Try.prog w 34 PTr.k34 TA.okX :=
  opens_ok (opens_iso (opens_struct (d := Kd.pair (Kd.slice 73 PTr.k73) (Kd.slice 85 PTr.k85)) (ok := fun x => ((∀ y ∈ x.1, small y.f0 ∧ wf64 y.f1) ∧ x.1.length ≤ maxLen) ∧ ((∀ y ∈ x.2, True ∧ small y.f1 ∧ small y.f2) ∧ x.2.length ≤ maxLen)) Try.underlying34 (by kernel_rfl)
    (seg_cons (opens_slice (opens_CondT w) Try.underlying31 (by kernel_rfl)) rfl (seg_one (opens_slice (opens_OpT w) Try.underlying32 (by kernel_rfl)) rfl)))
    (fun x : PTr.S34 => (x.f0, x.f1)) (fun a => ⟨a.1, a.2⟩) (fun _ => rfl)) (fun x h => ⟨⟨fun c hc => (h.1.1 c hc).1, h.1.2⟩, fun o ho => (h.2.1 o ho).2.1, h.2.2⟩)
theorem opens_Txns (w : World) : Opens Try.prog w 47 (Kd.slice 34 PTr.k34) (fun l => (∀ x ∈ l, TA.okX x) ∧ l.length ≤ maxLen) :=
  opens_slice (opens_Txn w) Try.underlying47 (by kernel_rfl)
end Go.Proofs.Ytobanhbjkomieaa.OP
namespace Go.Proofs.Ytobanhbjkomieaa.TA
open Go Go.RowKit Go.Proofs.Ytobanhbjkomieaa.KP Go.Proofs.YtobanhbjkomieaaW.PrintWords Go.Proofs.YtobanhbjkomieaaW.PrintLast Go.Proofs.YtobanhbjkomieaaW.PrintMore
open Go.Proofs.Ytobanhbjkomieaa.RP (below_next0)
set_option linter.unusedSimpArgs false
set_option linter.unusedVariables false
def frE (x : Ent) : PTr.S62 := ⟨x.key, x.val, x.made, x.mod⟩
def frV (x : Evt) : PTr.S60 := ⟨x.rev, x.del, x.key, x.val⟩
theorem C_frE {w : World} {A : Option Addr} {n : Nat} {l : List Ent} (h : Kd.C kEnt w A n l) : Kd.C PTr.k62 w A n (l.map frE) := by
  unfold PTr.k62
  unfold kEnt at h
  rw [C_iso] at h ⊢
  rw [List.map_map]
  exact h
theorem C_frV {w : World} {A : Option Addr} {n : Nat} {l : List Evt} (h : Kd.C kEvt w A n l) : Kd.C PTr.k60 w A n (l.map frV) := by
  unfold PTr.k60
  unfold kEvt at h
  rw [C_iso] at h ⊢
  rw [List.map_map]
  exact h
theorem entries_l0 (l : List PTr.S62) (hl : l.length ≤ 1000000000) : ∀ (d i : Nat), i + d = l.length → Ev (fun k => PTr.batonref12_Entries.l0 k l l (i : Int)) true
  | 0, i, h => by
    refine Ev.step (f := fun _ => some true) (fun k => ?_) (Ev.now _)
    simp only [PTr.batonref12_Entries.l0]
    rw [if_neg (by omega)]
  | d + 1, i, h => by
    have hw : wrap64 ((i : Int) + 1) = ((i + 1 : Nat) : Int) := by unfold wrap64; omega
    refine Ev.step (f := fun k => PTr.batonref12_Entries.l0 k l l ((i + 1 : Nat) : Int)) (fun k => ?_) (entries_l0 l hl d (i + 1) (by omega))
    simp only [PTr.batonref12_Entries.l0]
    rw [if_pos (by omega), if_pos (by omega), if_pos (by omega), if_neg (by simp), hw]
theorem events_l0 (l : List PTr.S60) (hl : l.length ≤ 1000000000) : ∀ (d i : Nat), i + d = l.length → Ev (fun k => PTr.batonref12_Events.l0 k l l (i : Int)) true
  | 0, i, h => by
    refine Ev.step (f := fun _ => some true) (fun k => ?_) (Ev.now _)
    simp only [PTr.batonref12_Events.l0]
    rw [if_neg (by omega)]
  | d + 1, i, h => by
    have hw : wrap64 ((i : Int) + 1) = ((i + 1 : Nat) : Int) := by unfold wrap64; omega
    refine Ev.step (f := fun k => PTr.batonref12_Events.l0 k l l ((i + 1 : Nat) : Int)) (fun k => ?_) (events_l0 l hl d (i + 1) (by omega))
    simp only [PTr.batonref12_Events.l0]
    rw [if_pos (by omega), if_pos (by omega), if_pos (by omega), if_neg (by simp), hw]
theorem entries_same (l : List Ent) (A B : Option Addr) (c c2 : Nat) (w : World) (hc : l.length ≤ c) (hc2 : l.length ≤ c2) (hA : Kd.C kEnt w A l.length l) (hB : Kd.C kEnt w B l.length l) (hl : l.length ≤ 1000000000) :
    Calls Try.prog 45 #[.slice A l.length c, .slice B l.length c2] w fun e w' => e = .returned (.bool true) ∧ Below w.heap.size w w' := by
  have e0 : (l.map frE).length = l.length := List.length_map _
  have h := entries_l0 (l.map frE) (by omega) (l.map frE).length 0 (by omega)
  have hE : Ev (fun k => PTr.batonref12_Entries.f k (l.map frE) (l.map frE)) true := Ev.congr (fun k => by simp only [PTr.batonref12_Entries.f, if_true]; rfl) h
  refine ev_calls hE (fun k hk => ?_)
  have := PTr.batonref12_Entries.calls k A c (l.map frE) B c2 (l.map frE) true w (by rw [e0]; exact C_frE hA) (by rw [e0]; exact hc) (by rw [e0]; exact C_frE hB) (by rw [e0]; exact hc2) hk
  rw [e0] at this
  exact this.mono fun _ _ h => ⟨h.1, h.2.below⟩
theorem events_same (l : List Evt) (A B : Option Addr) (c c2 : Nat) (w : World) (hc : l.length ≤ c) (hc2 : l.length ≤ c2) (hA : Kd.C kEvt w A l.length l) (hB : Kd.C kEvt w B l.length l) (hl : l.length ≤ 1000000000) :
    Calls Try.prog 55 #[.slice A l.length c, .slice B l.length c2] w fun e w' => e = .returned (.bool true) ∧ Below w.heap.size w w' := by
  have e0 : (l.map frV).length = l.length := List.length_map _
  have h := events_l0 (l.map frV) (by omega) (l.map frV).length 0 (by omega)
  have hE : Ev (fun k => PTr.batonref12_Events.f k (l.map frV) (l.map frV)) true := Ev.congr (fun k => by simp only [PTr.batonref12_Events.f, if_true]; rfl) h
  refine ev_calls hE (fun k hk => ?_)
  have := PTr.batonref12_Events.calls k A c (l.map frV) B c2 (l.map frV) true w (by rw [e0]; exact C_frV hA) (by rw [e0]; exact hc) (by rw [e0]; exact C_frV hB) (by rw [e0]; exact hc2) hk
  rw [e0] at this
  exact this.mono fun _ _ h => ⟨h.1, h.2.below⟩
end Go.Proofs.Ytobanhbjkomieaa.TA
end
