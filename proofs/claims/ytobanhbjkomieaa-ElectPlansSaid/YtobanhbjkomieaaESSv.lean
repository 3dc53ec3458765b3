import Derived.Test.YtobanhbjkomieaaEPSv
import Derived.Test.YtobanhbjkomieaaRTSv
import Derived.Test.YtobanhbjkomieaaERSv
namespace Go.Proofs.Ytobanhbjkomieaa.RP
open Go.RowKit Go.Proofs.Ytobanhbjkomieaa.PAll Go.Proofs.Ytobanhbjkomieaa.KP Go.Proofs.Ytobanhbjkomieaa.BP Go.Proofs.YtobanhbjkomieaaW.PrintWords Go.Proofs.YtobanhbjkomieaaW.PrintLast Go.Proofs.YtobanhbjkomieaaW.PrintMore
set_option linter.unusedSimpArgs false
set_option linter.unusedVariables false
attribute [local go_sem] idx1 idx2 idx3 idx4
theorem knameA (s : ByteArray) (hs : s.size ≤ 140737488351232) (w : World) : Calls Try.prog 107 #[.string s] w fun e w' => e = .returned (.bool (isName s.data.toList)) ∧ Below w.heap.size w w' :=
 (keysName_any s hs w).mono fun _ _ h => ⟨h.1, h.2.below⟩
theorem cutXW {goal : Prop} (Facts : Nat → World → Prop) {G : Nat → World → Prop} (main : (∀ X W, Facts X W → G X W) → goal) (pf : ∀ X W, Facts X W → G X W) : goal := main pf
theorem cutABY {goal : Prop} (Facts : Nat → Nat → Nat → World → Prop) {G : Nat → Nat → Nat → World → Prop} (main : (∀ A B Y W, Facts A B Y W → G A B Y W) → goal) (pf : ∀ A B Y W, Facts A B Y W → G A B Y W) : goal := main pf
theorem cutACW {goal : Prop} (Facts : Option Addr → Nat → World → Prop) {G : Nat → Option Addr → Nat → World → Prop} (main : (∀ L A c W, Facts A c W → G L A c W) → goal) (pf : ∀ L A c W, Facts A c W → G L A c W) : goal := main pf
theorem R_two {α : Type} {d : Kd α} {e : Nat} {W : World} {base : Nat} {ok : Nat → Prop} {v : Value} {x y : α} (h : Kd.R d e W base ok v ([x] ++ [y])) : ∃ A c, v = .slice A 2 c := Kd.R_slice h
theorem R_one {α : Type} {d : Kd α} {e : Nat} {W : World} {A base : Nat} {ok : Nat → Prop} {x : α} {cs : Array Value} (h : W.heap[A]? = some (.cells cs e (0, 0))) (hb : base ≤ A) (hok : ok A)
  (hp : d.M W base (fun k => ok k ∧ some k ≠ (Value.slice (some ⟨A, 0, none⟩) 1 1).ownBlock) x cs.toList) (hsz : cs.size = d.sz) : Kd.R d e W base ok (.slice (some ⟨A, 0, none⟩) 1 1) [x] :=
 ⟨fun k hk => by simp [Value.ownBlock] at hk; subst hk; exact hok, cs.toList, ⟨by simp [hsz], .inr ⟨A, 1, cs, rfl, hb, h, by simp, by simp [maxLen], by simp [hsz], by rw [List.length_singleton, Nat.one_mul, ← hsz, ← Array.length_toList, List.take_length]⟩⟩, by simp [hsz], fun j p hj => by
  cases j with
  | zero =>
   simp at hj; subst hj
   rw [Nat.zero_mul, List.drop_zero, ← hsz, ← Array.length_toList, List.take_length]
   exact hp
  | succ j => simp at hj⟩
theorem ne_type {W : World} {k g : Nat} {cs ds : Array Value} {t u : TypeId} (hk : W.heap[k]? = some (.cells cs t (0, 0))) (hg : W.heap[g]? = some (.cells ds u (0, 0))) (h : t ≠ u) : k ≠ g := by
 rintro rfl
 rw [hk] at hg
 injection hg with hg
 injection hg with _ hg
 exact h hg
theorem ne_own {k A : Nat} (h : k ≠ A) : some k ≠ (Value.slice (some ⟨A, 0, none⟩) 1 1).ownBlock := by simpa [Value.ownBlock] using h
abbrev Cnd := PEl.S73
abbrev Opn := PEl.S85
def TxRes (w : World) (cs : List Cnd) (os : List Opn) (err : Int) (e : Ending) (w' : World) : Prop :=
 ∃ v0 v1, e = .returned (.tuple #[.agg #[v0, v1], .int .i64 err]) ∧ Kd.R PEl.k73 73 w' w.heap.size (fun _ => True) v0 cs ∧ Kd.R PEl.k85 85 w' w.heap.size (fun _ => True) v1 os ∧ Below w.heap.size w w'
set_option maxHeartbeats 8000000 in
set_option maxRecDepth 100000 in
theorem plan_any (kd : Int) (fw ft : Nat) (both : Bool)
  (hidx : ∀ w, (Instr.index 211 rulesV (.int .u8 kd)).run Try.prog w = .ok (.agg #[.func (.func fw) #[] #[], .bool both, .func (.func ft) #[] #[]]) w)
  (ew : ∀ args w, (callFunc fw args).run Try.prog w = .ok (.enter fw args) w) (et : ∀ args w, (callFunc ft args).run Try.prog w = .ok (.enter ft args) w)
  (rep : ByteArray) (hr : rep.size ≤ 140737488351232) (ep tm : Int) (gone there : Bool) (mod live eps tmod : Int) (t c r : ByteArray) (ht : t.size ≤ 140737488351232) (hc : c.size ≤ 140737488351232) (now lim : Int)
  (h1 : isName t.data.toList = true) (h2 : isName c.data.toList = true) (h3 : 0 ≤ now) (h4 : now ≤ 1125899906842624) (h5 : mayKn rep ep tm gone there mod live eps tmod = true)
  (n0 : ByteArray) (n1 n2 : Int) (n3 n4 : Bool) (n5 n6 n7 n8 : Int) (o1 : Bool) (o2 o3 val : ByteArray) (er : Int)
  (s1 : ∀ W, Calls Try.prog fw #[knA rep ep tm gone there mod live eps tmod, wiA t c r now lim] W fun e w' => e = .returned (.int .i64 0) ∧ Below W.heap.size W w')
  (l2 : ∀ W, Calls Try.prog ft #[knA rep ep tm gone there mod live eps tmod, wiA t c r now lim] W fun e w' => e = .returned (knA n0 n1 n2 n3 n4 n5 n6 n7 n8) ∧ Below W.heap.size W w')
  (p1 : ∀ W, Calls Try.prog 169 #[.string ⟨(clusterK t.data.toList c.data.toList).toArray⟩, knA n0 n1 n2 n3 n4 n5 n6 n7 n8] W fun e w' => e = .returned (.agg #[.bool o1, .string o2, .string o3]) ∧ Below W.heap.size W w')
  (t1 : ∀ W, Calls Try.prog 83 #[.agg #[.int .i64 n6, .int .i64 n7]] W fun e w' => e = .returned (.tuple #[.string val, .int .i64 er]) ∧ Below W.heap.size W w')
  (cs : List Cnd) (os : List Opn) (hres : Hid (cs = ⟨⟨(clusterK t.data.toList c.data.toList).toArray⟩, mod⟩ :: (if both then [⟨⟨(tenantK t.data.toList).toArray⟩, tmod⟩] else []) ∧ os = ⟨o1, o2, o3⟩ :: (if both then [⟨false, ⟨(tenantK t.data.toList).toArray⟩, val⟩] else [])))
  (w : World) : Calls Try.prog 108 #[.int .u8 kd, knA rep ep tm gone there mod live eps tmod, wiA t c r now lim] w (TxRes w cs os 0) := by
 have n1 := fun W => knameA t ht W
 have n2 := fun W => knameA c hc W
 have m1 := fun W => electMay_any rep hr ep tm gone there mod live eps tmod W
 rw [h1] at n1
 rw [h2] at n2
 rw [h5] at m1
 have N1 := Lib.hid n1
 have N2 := Lib.hid n2
 have M1 := Lib.hid m1
 have S1 := Lib.hid s1
 have L2 := Lib.hid l2
 have P1 := Lib.hid p1
 have E1 := Lib.hid t1
 have L1 := Lib.hid (fun W => (keysCluster_any t c ht hc W).mono fun _ _ h => And.intro h.1 h.2.below)
 have L3 := Lib.hid (fun W => (keysTenant_any t ht W).mono fun _ _ h => And.intro h.1 h.2.below)
 clear n1 n2 m1 s1 l2 p1 t1 h1 h2 h5
 go_enter Try.func108, Try.ntmps108
 go_wp2_with fail
 refine (N1.out _).mono ?_
 rintro e w1 ⟨rfl, hb1⟩
 have HK1 := Lib.hid ((hb1.block (w.heap.size) (by simp; try omega)).trans (blk_alloc (blk_alloc (heap_alloc_new w (.cells #[.string rep, .int .i64 ep, .int .i64 tm, .bool gone, .bool there, .int .i64 mod, .int .i64 live, .int .i64 eps, .int .i64 tmod] 30)) (.cells #[.string t, .string c, .string r, .int .i64 now, .int .i64 lim] 156)) (.cells #[.slice none 0 0, .slice none 0 0] 34)))
 have HS1 := Lib.hid ((hb1.block (w.heap.size + 1) (by simp; try omega)).trans (blk_alloc (heap_alloc_at (w.alloc (.cells #[.string rep, .int .i64 ep, .int .i64 tm, .bool gone, .bool there, .int .i64 mod, .int .i64 live, .int .i64 eps, .int .i64 tmod] 30)) (.cells #[.string t, .string c, .string r, .int .i64 now, .int .i64 lim] 156) (n := w.heap.size + 1) (by simp)) (.cells #[.slice none 0 0, .slice none 0 0] 34)))
 have HT1 := Lib.hid ((hb1.block (w.heap.size + 2) (by simp)).trans (heap_alloc_at ((w.alloc (.cells #[.string rep, .int .i64 ep, .int .i64 tm, .bool gone, .bool there, .int .i64 mod, .int .i64 live, .int .i64 eps, .int .i64 tmod] 30)).alloc (.cells #[.string t, .string c, .string r, .int .i64 now, .int .i64 lim] 156)) (.cells #[.slice none 0 0, .slice none 0 0] 34) (n := w.heap.size + 2) (by simp)))
 have HB1 := Lib.hid ((below_alloc (below_alloc (below_alloc (Below.refl w.heap.size w) (.cells #[.string rep, .int .i64 ep, .int .i64 tm, .bool gone, .bool there, .int .i64 mod, .int .i64 live, .int .i64 eps, .int .i64 tmod] 30)) (.cells #[.string t, .string c, .string r, .int .i64 now, .int .i64 lim] 156)) (.cells #[.slice none 0 0, .slice none 0 0] 34)).trans (hb1.mono (by simp; try omega)))
 clear hb1
 have hcS0 := blk_cell HS1.out 0
 have hcS1 := blk_cell HS1.out 1
 have hcS2 := blk_cell HS1.out 2
 have hcS3 := blk_cell HS1.out 3
 have hcS4 := blk_cell HS1.out 4
 have hlS := blk_lt HS1.out
 simp only [List.getElem?_toArray, List.getElem?_cons_zero, List.getElem?_cons_succ] at hcS0 hcS1 hcS2 hcS3 hcS4
 go_wp2_with fail
 refine (N2.out _).mono ?_
 rintro e w2 ⟨rfl, hb2⟩
 clear hcS0 hcS1 hcS2 hcS3 hcS4 hlS
 have HK2 := Lib.hid ((hb2.block _ (by have := blk_lt HK1.out; exact this)).trans HK1.out)
 have HS2 := Lib.hid ((hb2.block _ (by have := blk_lt HS1.out; exact this)).trans HS1.out)
 have HT2 := Lib.hid ((hb2.block _ (by have := blk_lt HT1.out; exact this)).trans HT1.out)
 have HB2 := Lib.hid ((HB1.out).trans (hb2.mono (by have := HB1.out.size; omega)))
 clear hb2
 have hcS0 := blk_cell HS2.out 0
 have hcS1 := blk_cell HS2.out 1
 have hcS2 := blk_cell HS2.out 2
 have hcS3 := blk_cell HS2.out 3
 have hcS4 := blk_cell HS2.out 4
 have hlS := blk_lt HS2.out
 have hcK0 := blk_cell HK2.out 0
 have hcK1 := blk_cell HK2.out 1
 have hcK2 := blk_cell HK2.out 2
 have hcK3 := blk_cell HK2.out 3
 have hcK4 := blk_cell HK2.out 4
 have hcK5 := blk_cell HK2.out 5
 have hcK6 := blk_cell HK2.out 6
 have hcK7 := blk_cell HK2.out 7
 have hcK8 := blk_cell HK2.out 8
 have hlK := blk_lt HK2.out
 simp only [List.getElem?_toArray, List.getElem?_cons_zero, List.getElem?_cons_succ] at hcS0 hcS1 hcS2 hcS3 hcS4 hcK0 hcK1 hcK2 hcK3 hcK4 hcK5 hcK6 hcK7 hcK8
 go_wp2_with fail
 refine (M1.out _).mono ?_
 rintro e w3 ⟨rfl, hb3⟩
 clear hcS0 hcS1 hcS2 hcS3 hcS4 hcK0 hcK1 hcK2 hcK3 hcK4 hcK5 hcK6 hcK7 hcK8 hlS hlK
 have HK3 := Lib.hid ((hb3.block _ (by have := blk_lt HK2.out; exact this)).trans HK2.out)
 have HS3 := Lib.hid ((hb3.block _ (by have := blk_lt HS2.out; exact this)).trans HS2.out)
 have HT3 := Lib.hid ((hb3.block _ (by have := blk_lt HT2.out; exact this)).trans HT2.out)
 have HB3 := Lib.hid ((HB2.out).trans (hb3.mono (by have := HB2.out.size; omega)))
 clear hb3
 go_wp2_with fail
 refine (rules_any _).mono ?_
 rintro e w4 ⟨rfl, hb4⟩
 have HK4 := Lib.hid ((hb4.block _ (by have := blk_lt HK3.out; exact this)).trans HK3.out)
 have HS4 := Lib.hid ((hb4.block _ (by have := blk_lt HS3.out; exact this)).trans HS3.out)
 have HT4 := Lib.hid ((hb4.block _ (by have := blk_lt HT3.out; exact this)).trans HT3.out)
 have HB4 := Lib.hid ((HB3.out).trans (hb4.mono (by have := HB3.out.size; omega)))
 clear hb4
 have hcK0 := blk_cell HK4.out 0
 have hcK1 := blk_cell HK4.out 1
 have hcK2 := blk_cell HK4.out 2
 have hcK3 := blk_cell HK4.out 3
 have hcK4 := blk_cell HK4.out 4
 have hcK5 := blk_cell HK4.out 5
 have hcK6 := blk_cell HK4.out 6
 have hcK7 := blk_cell HK4.out 7
 have hcK8 := blk_cell HK4.out 8
 have hlK := blk_lt HK4.out
 have hcS0 := blk_cell HS4.out 0
 have hcS1 := blk_cell HS4.out 1
 have hcS2 := blk_cell HS4.out 2
 have hcS3 := blk_cell HS4.out 3
 have hcS4 := blk_cell HS4.out 4
 have hlS := blk_lt HS4.out
 simp only [List.getElem?_toArray, List.getElem?_cons_zero, List.getElem?_cons_succ] at hcK0 hcK1 hcK2 hcK3 hcK4 hcK5 hcK6 hcK7 hcK8 hcS0 hcS1 hcS2 hcS3 hcS4
 go_wp2_with fail
 refine (S1.out _).mono ?_
 rintro e w5 ⟨rfl, hb5⟩
 clear hcK0 hcK1 hcK2 hcK3 hcK4 hcK5 hcK6 hcK7 hcK8 hcS0 hcS1 hcS2 hcS3 hcS4 hlK hlS
 have HK5 := Lib.hid ((hb5.block _ (by have := blk_lt HK4.out; simp; omega)).trans (blk_alloc HK4.out (.cells #[.func (.func fw) #[] #[], .bool both, .func (.func ft) #[] #[]] 210)))
 have HS5 := Lib.hid ((hb5.block _ (by have := blk_lt HS4.out; simp; omega)).trans (blk_alloc HS4.out (.cells #[.func (.func fw) #[] #[], .bool both, .func (.func ft) #[] #[]] 210)))
 have HT5 := Lib.hid ((hb5.block _ (by have := blk_lt HT4.out; simp; omega)).trans (blk_alloc HT4.out (.cells #[.func (.func fw) #[] #[], .bool both, .func (.func ft) #[] #[]] 210)))
 have HU5 := Lib.hid ((hb5.block (w4.heap.size) (by simp)).trans (heap_alloc_new w4 (.cells #[.func (.func fw) #[] #[], .bool both, .func (.func ft) #[] #[]] 210)))
 have HB5 := Lib.hid ((below_alloc (HB4.out) (.cells #[.func (.func fw) #[] #[], .bool both, .func (.func ft) #[] #[]] 210)).trans (hb5.mono (by have := HB4.out.size; simp; omega)))
 clear hb5
 have hcK0 := blk_cell HK5.out 0
 have hcK1 := blk_cell HK5.out 1
 have hcK2 := blk_cell HK5.out 2
 have hcK3 := blk_cell HK5.out 3
 have hcK4 := blk_cell HK5.out 4
 have hcK5 := blk_cell HK5.out 5
 have hcK6 := blk_cell HK5.out 6
 have hcK7 := blk_cell HK5.out 7
 have hcK8 := blk_cell HK5.out 8
 have hlK := blk_lt HK5.out
 have hcS0 := blk_cell HS5.out 0
 have hcS1 := blk_cell HS5.out 1
 have hcS2 := blk_cell HS5.out 2
 have hcS3 := blk_cell HS5.out 3
 have hcS4 := blk_cell HS5.out 4
 have hlS := blk_lt HS5.out
 have hcU0 := blk_cell HU5.out 0
 have hcU1 := blk_cell HU5.out 1
 have hcU2 := blk_cell HU5.out 2
 have hlU := blk_lt HU5.out
 simp only [List.getElem?_toArray, List.getElem?_cons_zero, List.getElem?_cons_succ] at hcK0 hcK1 hcK2 hcK3 hcK4 hcK5 hcK6 hcK7 hcK8 hcS0 hcS1 hcS2 hcS3 hcS4 hcU0 hcU1 hcU2
 have hSB5 := Lib.hid (show ∀ W, Below w5.heap.size w5 W → (fun W => W.cell? ⟨w.heap.size, 0, none⟩ = some (.string rep) ∧ W.cell? ⟨w.heap.size, 1, none⟩ = some (.int .i64 ep) ∧ W.cell? ⟨w.heap.size, 2, none⟩ = some (.int .i64 tm) ∧ W.cell? ⟨w.heap.size, 3, none⟩ = some (.bool gone) ∧ W.cell? ⟨w.heap.size, 4, none⟩ = some (.bool there) ∧ W.cell? ⟨w.heap.size, 5, none⟩ = some (.int .i64 mod) ∧ W.cell? ⟨w.heap.size, 6, none⟩ = some (.int .i64 live) ∧ W.cell? ⟨w.heap.size, 7, none⟩ = some (.int .i64 eps) ∧ W.cell? ⟨w.heap.size, 8, none⟩ = some (.int .i64 tmod) ∧ W.cell? ⟨w.heap.size + 1, 0, none⟩ = some (.string t) ∧ W.cell? ⟨w.heap.size + 1, 1, none⟩ = some (.string c) ∧ W.cell? ⟨w.heap.size + 1, 2, none⟩ = some (.string r) ∧ W.cell? ⟨w.heap.size + 1, 3, none⟩ = some (.int .i64 now) ∧ W.cell? ⟨w.heap.size + 1, 4, none⟩ = some (.int .i64 lim) ∧ W.cell? ⟨w4.heap.size, 0, none⟩ = some (.func (.func fw) #[] #[]) ∧ W.cell? ⟨w4.heap.size, 1, none⟩ = some (.bool both) ∧ W.cell? ⟨w4.heap.size, 2, none⟩ = some (.func (.func ft) #[] #[])) W from fun W hW => ⟨(hW.cell (p := ⟨w.heap.size, 0, none⟩) (by have := blk_lt HK5.out; omega)).trans hcK0, (hW.cell (p := ⟨w.heap.size, 1, none⟩) (by have := blk_lt HK5.out; omega)).trans hcK1, (hW.cell (p := ⟨w.heap.size, 2, none⟩) (by have := blk_lt HK5.out; omega)).trans hcK2, (hW.cell (p := ⟨w.heap.size, 3, none⟩) (by have := blk_lt HK5.out; omega)).trans hcK3, (hW.cell (p := ⟨w.heap.size, 4, none⟩) (by have := blk_lt HK5.out; omega)).trans hcK4, (hW.cell (p := ⟨w.heap.size, 5, none⟩) (by have := blk_lt HK5.out; omega)).trans hcK5, (hW.cell (p := ⟨w.heap.size, 6, none⟩) (by have := blk_lt HK5.out; omega)).trans hcK6, (hW.cell (p := ⟨w.heap.size, 7, none⟩) (by have := blk_lt HK5.out; omega)).trans hcK7, (hW.cell (p := ⟨w.heap.size, 8, none⟩) (by have := blk_lt HK5.out; omega)).trans hcK8, (hW.cell (p := ⟨w.heap.size + 1, 0, none⟩) (by have := blk_lt HS5.out; omega)).trans hcS0, (hW.cell (p := ⟨w.heap.size + 1, 1, none⟩) (by have := blk_lt HS5.out; omega)).trans hcS1, (hW.cell (p := ⟨w.heap.size + 1, 2, none⟩) (by have := blk_lt HS5.out; omega)).trans hcS2, (hW.cell (p := ⟨w.heap.size + 1, 3, none⟩) (by have := blk_lt HS5.out; omega)).trans hcS3, (hW.cell (p := ⟨w.heap.size + 1, 4, none⟩) (by have := blk_lt HS5.out; omega)).trans hcS4, (hW.cell (p := ⟨w4.heap.size, 0, none⟩) (by have := blk_lt HU5.out; omega)).trans hcU0, (hW.cell (p := ⟨w4.heap.size, 1, none⟩) (by have := blk_lt HU5.out; omega)).trans hcU1, (hW.cell (p := ⟨w4.heap.size, 2, none⟩) (by have := blk_lt HU5.out; omega)).trans hcU2⟩)
 clear hcK0 hcK1 hcK2 hcK3 hcK4 hcK5 hcK6 hcK7 hcK8 hcS0 hcS1 hcS2 hcS3 hcS4 hcU0 hcU1 hcU2 hlK hlS hlU
 go_wp2_with fail
 apply cutXW (fun X W => w5.heap.size ≤ X ∧ Below w5.heap.size w5 W ∧ W.heap[X]? = some (.cells #[.string n0, .int .i64 n1, .int .i64 n2, .bool n3, .bool n4, .int .i64 n5, .int .i64 n6, .int .i64 n7, .int .i64 n8] 30 (0, 0)))
 ·
  intro REST
  have REST' := Lib.hid REST
  clear REST
  refine wp_region_noPanic ?_
  refine wp_region_held_drew (S := fun W => W.cell? ⟨w.heap.size, 0, none⟩ = some (.string rep) ∧ W.cell? ⟨w.heap.size, 1, none⟩ = some (.int .i64 ep) ∧ W.cell? ⟨w.heap.size, 2, none⟩ = some (.int .i64 tm) ∧ W.cell? ⟨w.heap.size, 3, none⟩ = some (.bool gone) ∧ W.cell? ⟨w.heap.size, 4, none⟩ = some (.bool there) ∧ W.cell? ⟨w.heap.size, 5, none⟩ = some (.int .i64 mod) ∧ W.cell? ⟨w.heap.size, 6, none⟩ = some (.int .i64 live) ∧ W.cell? ⟨w.heap.size, 7, none⟩ = some (.int .i64 eps) ∧ W.cell? ⟨w.heap.size, 8, none⟩ = some (.int .i64 tmod) ∧ W.cell? ⟨w.heap.size + 1, 0, none⟩ = some (.string t) ∧ W.cell? ⟨w.heap.size + 1, 1, none⟩ = some (.string c) ∧ W.cell? ⟨w.heap.size + 1, 2, none⟩ = some (.string r) ∧ W.cell? ⟨w.heap.size + 1, 3, none⟩ = some (.int .i64 now) ∧ W.cell? ⟨w.heap.size + 1, 4, none⟩ = some (.int .i64 lim) ∧ W.cell? ⟨w4.heap.size, 0, none⟩ = some (.func (.func fw) #[] #[]) ∧ W.cell? ⟨w4.heap.size, 1, none⟩ = some (.bool both) ∧ W.cell? ⟨w4.heap.size, 2, none⟩ = some (.func (.func ft) #[] #[])) (by kernel_rfl) (hSB5.out _ (Below.refl _ _).drew) (fun hHeld => ?_)
  have hB0 := Lib.hid (show Below w5.heap.size w5 w5.drew from (Below.refl _ _).drew)
  refine wTake 0 ?_
  refine wTake 1 ?_
  refine wTake 2 ?_
  refine wTake 3 ?_
  refine wTake 5 ?_
  refine wTake 6 ?_
  refine wTake 7 ?_
  refine wTake 8 ?_
  try simp only [Act.put, List.setIfInBounds_toArray, List.set_cons_zero, List.set_cons_succ]
  refine wpAnyH_ready (rs := [4, 10]) (by kernel_rfl) (by simp) (AllReadyH.cons rfl (fun K hK => ?_) (AllReadyH.cons rfl (fun K hK => ?_) AllReadyH.nil))
  ·
   go_simp
   go_at_call 168
   with_reducible refine (L1.out _).mono ?_
   rintro e x1 ⟨rfl, hb⟩
   have hB1 := Lib.hid (below_next0 hB0.out hb)
   clear hb
   go_wp2_with fail
   refine hK.out _ _ (hSB5.out _ hB1.out) (fun hHeld => ?_)
   clear hK K
   try simp only [Act.put, List.setIfInBounds_toArray, List.set_cons_zero, List.set_cons_succ]
   refine wpAnyH_ready (rs := [9, 10]) (by kernel_rfl) (by simp) (AllReadyH.cons rfl (fun K hK => ?_) (AllReadyH.cons rfl (fun K hK => ?_) AllReadyH.nil))
   ·
    go_simp
    with_reducible refine (L2.out _).mono ?_
    rintro e x2 ⟨rfl, hb⟩
    have hB2 := Lib.hid (below_next0 hB1.out hb)
    clear hb
    go_wp2_with fail
    refine hK.out _ _ (hSB5.out _ hB2.out) (fun hHeld => ?_)
    clear hK K
    try simp only [Act.put, List.setIfInBounds_toArray, List.set_cons_zero, List.set_cons_succ]
    refine wpAnyH_ready (rs := [10]) (by kernel_rfl) (by simp) (AllReadyH.cons rfl (fun K hK => ?_) AllReadyH.nil)
    go_simp
    obtain ⟨X, hX⟩ : ∃ X, X = x2.heap.size := ⟨_, rfl⟩
    go_wp2_with fail
    have eX : x2.heap.size = X := hX.symm
    rw [eX]
    have lX : w5.heap.size ≤ X := by rw [hX]; exact hB2.out.size
    have hB3 := Lib.hid (show Below w5.heap.size w5 (x2.alloc (.cells #[.string ⟨#[]⟩, .int .i64 0, .int .i64 0, .bool false, .bool false, .int .i64 0, .int .i64 0, .int .i64 0, .int .i64 0] 30)) from below_alloc hB2.out (.cells #[.string ⟨#[]⟩, .int .i64 0, .int .i64 0, .bool false, .bool false, .int .i64 0, .int .i64 0, .int .i64 0, .int .i64 0] 30))
    have HX_3 := Lib.hid (show (x2.alloc (.cells #[.string ⟨#[]⟩, .int .i64 0, .int .i64 0, .bool false, .bool false, .int .i64 0, .int .i64 0, .int .i64 0, .int .i64 0] 30)).heap[X]? = some (.cells #[.string ⟨#[]⟩, .int .i64 0, .int .i64 0, .bool false, .bool false, .int .i64 0, .int .i64 0, .int .i64 0, .int .i64 0] 30 (0, 0)) from hX ▸ heap_alloc_new x2 (.cells #[.string ⟨#[]⟩, .int .i64 0, .int .i64 0, .bool false, .bool false, .int .i64 0, .int .i64 0, .int .i64 0, .int .i64 0] 30))
    clear eX hX
    generalize (x2.alloc (.cells #[.string ⟨#[]⟩, .int .i64 0, .int .i64 0, .bool false, .bool false, .int .i64 0, .int .i64 0, .int .i64 0, .int .i64 0] 30)) = x3 at *
    refine hK.out _ _ (hSB5.out _ hB3.out) (fun hHeld => ?_)
    clear hK K
    try simp only [Act.put, List.setIfInBounds_toArray, List.set_cons_zero, List.set_cons_succ]
    refine wTake 11 ?_
    try simp only [Act.put, List.setIfInBounds_toArray, List.set_cons_zero, List.set_cons_succ]
    refine wpAnyH_ready (rs := [12]) (by kernel_rfl) (by simp) (AllReadyH.cons rfl (fun K hK => ?_) AllReadyH.nil)
    have z0 := blk_cell HX_3.out 0
    have y0 := blk_frozen HX_3.out 0
    have z1 := blk_cell HX_3.out 1
    have y1 := blk_frozen HX_3.out 1
    have z2 := blk_cell HX_3.out 2
    have y2 := blk_frozen HX_3.out 2
    have z3 := blk_cell HX_3.out 3
    have y3 := blk_frozen HX_3.out 3
    have z4 := blk_cell HX_3.out 4
    have y4 := blk_frozen HX_3.out 4
    have z5 := blk_cell HX_3.out 5
    have y5 := blk_frozen HX_3.out 5
    have z6 := blk_cell HX_3.out 6
    have y6 := blk_frozen HX_3.out 6
    have z7 := blk_cell HX_3.out 7
    have y7 := blk_frozen HX_3.out 7
    have z8 := blk_cell HX_3.out 8
    have y8 := blk_frozen HX_3.out 8
    simp only [List.getElem?_toArray, List.getElem?_cons_zero, List.getElem?_cons_succ] at z0 z1 z2 z3 z4 z5 z6 z7 z8
    go_simp
    clear z0 y0 z1 y1 z2 y2 z3 y3 z4 y4 z5 y5 z6 y6 z7 y7 z8 y8
    have hB4 := Lib.hid (show Below w5.heap.size w5 (((((((((x3.setCell ⟨X, 0, none⟩ (.string n0)).setCell ⟨X, 1, none⟩ (.int .i64 n1)).setCell ⟨X, 2, none⟩ (.int .i64 n2)).setCell ⟨X, 3, none⟩ (.bool n3)).setCell ⟨X, 4, none⟩ (.bool n4)).setCell ⟨X, 5, none⟩ (.int .i64 n5)).setCell ⟨X, 6, none⟩ (.int .i64 n6)).setCell ⟨X, 7, none⟩ (.int .i64 n7)).setCell ⟨X, 8, none⟩ (.int .i64 n8)) from (((((((((hB3.out.setCell (p := ⟨X, 0, none⟩) lX (.string n0)).setCell (p := ⟨X, 1, none⟩) lX (.int .i64 n1)).setCell (p := ⟨X, 2, none⟩) lX (.int .i64 n2)).setCell (p := ⟨X, 3, none⟩) lX (.bool n3)).setCell (p := ⟨X, 4, none⟩) lX (.bool n4)).setCell (p := ⟨X, 5, none⟩) lX (.int .i64 n5)).setCell (p := ⟨X, 6, none⟩) lX (.int .i64 n6)).setCell (p := ⟨X, 7, none⟩) lX (.int .i64 n7)).setCell (p := ⟨X, 8, none⟩) lX (.int .i64 n8)))
    have HX_4 := Lib.hid (show (((((((((x3.setCell ⟨X, 0, none⟩ (.string n0)).setCell ⟨X, 1, none⟩ (.int .i64 n1)).setCell ⟨X, 2, none⟩ (.int .i64 n2)).setCell ⟨X, 3, none⟩ (.bool n3)).setCell ⟨X, 4, none⟩ (.bool n4)).setCell ⟨X, 5, none⟩ (.int .i64 n5)).setCell ⟨X, 6, none⟩ (.int .i64 n6)).setCell ⟨X, 7, none⟩ (.int .i64 n7)).setCell ⟨X, 8, none⟩ (.int .i64 n8)).heap[X]? = some (.cells #[.string n0, .int .i64 n1, .int .i64 n2, .bool n3, .bool n4, .int .i64 n5, .int .i64 n6, .int .i64 n7, .int .i64 n8] 30 (0, 0)) from (blk_put (cs := #[.string n0, .int .i64 n1, .int .i64 n2, .bool n3, .bool n4, .int .i64 n5, .int .i64 n6, .int .i64 n7, .int .i64 0]) (blk_put (cs := #[.string n0, .int .i64 n1, .int .i64 n2, .bool n3, .bool n4, .int .i64 n5, .int .i64 n6, .int .i64 0, .int .i64 0]) (blk_put (cs := #[.string n0, .int .i64 n1, .int .i64 n2, .bool n3, .bool n4, .int .i64 n5, .int .i64 0, .int .i64 0, .int .i64 0]) (blk_put (cs := #[.string n0, .int .i64 n1, .int .i64 n2, .bool n3, .bool n4, .int .i64 0, .int .i64 0, .int .i64 0, .int .i64 0]) (blk_put (cs := #[.string n0, .int .i64 n1, .int .i64 n2, .bool n3, .bool false, .int .i64 0, .int .i64 0, .int .i64 0, .int .i64 0]) (blk_put (cs := #[.string n0, .int .i64 n1, .int .i64 n2, .bool false, .bool false, .int .i64 0, .int .i64 0, .int .i64 0, .int .i64 0]) (blk_put (cs := #[.string n0, .int .i64 n1, .int .i64 0, .bool false, .bool false, .int .i64 0, .int .i64 0, .int .i64 0, .int .i64 0]) (blk_put (cs := #[.string n0, .int .i64 0, .int .i64 0, .bool false, .bool false, .int .i64 0, .int .i64 0, .int .i64 0, .int .i64 0]) (blk_put (cs := #[.string ⟨#[]⟩, .int .i64 0, .int .i64 0, .bool false, .bool false, .int .i64 0, .int .i64 0, .int .i64 0, .int .i64 0]) HX_3.out 0 (.string n0) rfl) 1 (.int .i64 n1) rfl) 2 (.int .i64 n2) rfl) 3 (.bool n3) rfl) 4 (.bool n4) rfl) 5 (.int .i64 n5) rfl) 6 (.int .i64 n6) rfl) 7 (.int .i64 n7) rfl) 8 (.int .i64 n8) rfl))
    generalize (((((((((x3.setCell ⟨X, 0, none⟩ (.string n0)).setCell ⟨X, 1, none⟩ (.int .i64 n1)).setCell ⟨X, 2, none⟩ (.int .i64 n2)).setCell ⟨X, 3, none⟩ (.bool n3)).setCell ⟨X, 4, none⟩ (.bool n4)).setCell ⟨X, 5, none⟩ (.int .i64 n5)).setCell ⟨X, 6, none⟩ (.int .i64 n6)).setCell ⟨X, 7, none⟩ (.int .i64 n7)).setCell ⟨X, 8, none⟩ (.int .i64 n8)) = x4 at *
    refine hK.out _ _ (hSB5.out _ hB4.out) (fun hHeld => ?_)
    clear hK K
    try simp only [Act.put, List.setIfInBounds_toArray, List.set_cons_zero, List.set_cons_succ]
    refine wpAnyH_done (by kernel_rfl) ?_ _
    refine NoPanic.normal ?_
    exact REST'.out X x4 ⟨lX, hB4.out, HX_4.out⟩
   ·
    go_simp
    obtain ⟨X, hX⟩ : ∃ X, X = x1.heap.size := ⟨_, rfl⟩
    go_wp2_with fail
    have eX : x1.heap.size = X := hX.symm
    rw [eX]
    have lX : w5.heap.size ≤ X := by rw [hX]; exact hB1.out.size
    have hB2 := Lib.hid (show Below w5.heap.size w5 (x1.alloc (.cells #[.string ⟨#[]⟩, .int .i64 0, .int .i64 0, .bool false, .bool false, .int .i64 0, .int .i64 0, .int .i64 0, .int .i64 0] 30)) from below_alloc hB1.out (.cells #[.string ⟨#[]⟩, .int .i64 0, .int .i64 0, .bool false, .bool false, .int .i64 0, .int .i64 0, .int .i64 0, .int .i64 0] 30))
    have HX_2 := Lib.hid (show (x1.alloc (.cells #[.string ⟨#[]⟩, .int .i64 0, .int .i64 0, .bool false, .bool false, .int .i64 0, .int .i64 0, .int .i64 0, .int .i64 0] 30)).heap[X]? = some (.cells #[.string ⟨#[]⟩, .int .i64 0, .int .i64 0, .bool false, .bool false, .int .i64 0, .int .i64 0, .int .i64 0, .int .i64 0] 30 (0, 0)) from hX ▸ heap_alloc_new x1 (.cells #[.string ⟨#[]⟩, .int .i64 0, .int .i64 0, .bool false, .bool false, .int .i64 0, .int .i64 0, .int .i64 0, .int .i64 0] 30))
    clear eX hX
    generalize (x1.alloc (.cells #[.string ⟨#[]⟩, .int .i64 0, .int .i64 0, .bool false, .bool false, .int .i64 0, .int .i64 0, .int .i64 0, .int .i64 0] 30)) = x2 at *
    refine hK.out _ _ (hSB5.out _ hB2.out) (fun hHeld => ?_)
    clear hK K
    try simp only [Act.put, List.setIfInBounds_toArray, List.set_cons_zero, List.set_cons_succ]
    refine wpAnyH_ready (rs := [9]) (by kernel_rfl) (by simp) (AllReadyH.cons rfl (fun K hK => ?_) AllReadyH.nil)
    go_simp
    with_reducible refine (L2.out _).mono ?_
    rintro e x3 ⟨rfl, hb⟩
    have hB3 := Lib.hid (below_next0 hB2.out hb)
    have HX_3 := Lib.hid ((hb.block _ (blk_lt HX_2.out)).trans HX_2.out)
    clear hb
    go_wp2_with fail
    refine hK.out _ _ (hSB5.out _ hB3.out) (fun hHeld => ?_)
    clear hK K
    try simp only [Act.put, List.setIfInBounds_toArray, List.set_cons_zero, List.set_cons_succ]
    refine wTake 11 ?_
    try simp only [Act.put, List.setIfInBounds_toArray, List.set_cons_zero, List.set_cons_succ]
    refine wpAnyH_ready (rs := [12]) (by kernel_rfl) (by simp) (AllReadyH.cons rfl (fun K hK => ?_) AllReadyH.nil)
    have z0 := blk_cell HX_3.out 0
    have y0 := blk_frozen HX_3.out 0
    have z1 := blk_cell HX_3.out 1
    have y1 := blk_frozen HX_3.out 1
    have z2 := blk_cell HX_3.out 2
    have y2 := blk_frozen HX_3.out 2
    have z3 := blk_cell HX_3.out 3
    have y3 := blk_frozen HX_3.out 3
    have z4 := blk_cell HX_3.out 4
    have y4 := blk_frozen HX_3.out 4
    have z5 := blk_cell HX_3.out 5
    have y5 := blk_frozen HX_3.out 5
    have z6 := blk_cell HX_3.out 6
    have y6 := blk_frozen HX_3.out 6
    have z7 := blk_cell HX_3.out 7
    have y7 := blk_frozen HX_3.out 7
    have z8 := blk_cell HX_3.out 8
    have y8 := blk_frozen HX_3.out 8
    simp only [List.getElem?_toArray, List.getElem?_cons_zero, List.getElem?_cons_succ] at z0 z1 z2 z3 z4 z5 z6 z7 z8
    go_simp
    clear z0 y0 z1 y1 z2 y2 z3 y3 z4 y4 z5 y5 z6 y6 z7 y7 z8 y8
    have hB4 := Lib.hid (show Below w5.heap.size w5 (((((((((x3.setCell ⟨X, 0, none⟩ (.string n0)).setCell ⟨X, 1, none⟩ (.int .i64 n1)).setCell ⟨X, 2, none⟩ (.int .i64 n2)).setCell ⟨X, 3, none⟩ (.bool n3)).setCell ⟨X, 4, none⟩ (.bool n4)).setCell ⟨X, 5, none⟩ (.int .i64 n5)).setCell ⟨X, 6, none⟩ (.int .i64 n6)).setCell ⟨X, 7, none⟩ (.int .i64 n7)).setCell ⟨X, 8, none⟩ (.int .i64 n8)) from (((((((((hB3.out.setCell (p := ⟨X, 0, none⟩) lX (.string n0)).setCell (p := ⟨X, 1, none⟩) lX (.int .i64 n1)).setCell (p := ⟨X, 2, none⟩) lX (.int .i64 n2)).setCell (p := ⟨X, 3, none⟩) lX (.bool n3)).setCell (p := ⟨X, 4, none⟩) lX (.bool n4)).setCell (p := ⟨X, 5, none⟩) lX (.int .i64 n5)).setCell (p := ⟨X, 6, none⟩) lX (.int .i64 n6)).setCell (p := ⟨X, 7, none⟩) lX (.int .i64 n7)).setCell (p := ⟨X, 8, none⟩) lX (.int .i64 n8)))
    have HX_4 := Lib.hid (show (((((((((x3.setCell ⟨X, 0, none⟩ (.string n0)).setCell ⟨X, 1, none⟩ (.int .i64 n1)).setCell ⟨X, 2, none⟩ (.int .i64 n2)).setCell ⟨X, 3, none⟩ (.bool n3)).setCell ⟨X, 4, none⟩ (.bool n4)).setCell ⟨X, 5, none⟩ (.int .i64 n5)).setCell ⟨X, 6, none⟩ (.int .i64 n6)).setCell ⟨X, 7, none⟩ (.int .i64 n7)).setCell ⟨X, 8, none⟩ (.int .i64 n8)).heap[X]? = some (.cells #[.string n0, .int .i64 n1, .int .i64 n2, .bool n3, .bool n4, .int .i64 n5, .int .i64 n6, .int .i64 n7, .int .i64 n8] 30 (0, 0)) from (blk_put (cs := #[.string n0, .int .i64 n1, .int .i64 n2, .bool n3, .bool n4, .int .i64 n5, .int .i64 n6, .int .i64 n7, .int .i64 0]) (blk_put (cs := #[.string n0, .int .i64 n1, .int .i64 n2, .bool n3, .bool n4, .int .i64 n5, .int .i64 n6, .int .i64 0, .int .i64 0]) (blk_put (cs := #[.string n0, .int .i64 n1, .int .i64 n2, .bool n3, .bool n4, .int .i64 n5, .int .i64 0, .int .i64 0, .int .i64 0]) (blk_put (cs := #[.string n0, .int .i64 n1, .int .i64 n2, .bool n3, .bool n4, .int .i64 0, .int .i64 0, .int .i64 0, .int .i64 0]) (blk_put (cs := #[.string n0, .int .i64 n1, .int .i64 n2, .bool n3, .bool false, .int .i64 0, .int .i64 0, .int .i64 0, .int .i64 0]) (blk_put (cs := #[.string n0, .int .i64 n1, .int .i64 n2, .bool false, .bool false, .int .i64 0, .int .i64 0, .int .i64 0, .int .i64 0]) (blk_put (cs := #[.string n0, .int .i64 n1, .int .i64 0, .bool false, .bool false, .int .i64 0, .int .i64 0, .int .i64 0, .int .i64 0]) (blk_put (cs := #[.string n0, .int .i64 0, .int .i64 0, .bool false, .bool false, .int .i64 0, .int .i64 0, .int .i64 0, .int .i64 0]) (blk_put (cs := #[.string ⟨#[]⟩, .int .i64 0, .int .i64 0, .bool false, .bool false, .int .i64 0, .int .i64 0, .int .i64 0, .int .i64 0]) HX_3.out 0 (.string n0) rfl) 1 (.int .i64 n1) rfl) 2 (.int .i64 n2) rfl) 3 (.bool n3) rfl) 4 (.bool n4) rfl) 5 (.int .i64 n5) rfl) 6 (.int .i64 n6) rfl) 7 (.int .i64 n7) rfl) 8 (.int .i64 n8) rfl))
    generalize (((((((((x3.setCell ⟨X, 0, none⟩ (.string n0)).setCell ⟨X, 1, none⟩ (.int .i64 n1)).setCell ⟨X, 2, none⟩ (.int .i64 n2)).setCell ⟨X, 3, none⟩ (.bool n3)).setCell ⟨X, 4, none⟩ (.bool n4)).setCell ⟨X, 5, none⟩ (.int .i64 n5)).setCell ⟨X, 6, none⟩ (.int .i64 n6)).setCell ⟨X, 7, none⟩ (.int .i64 n7)).setCell ⟨X, 8, none⟩ (.int .i64 n8)) = x4 at *
    refine hK.out _ _ (hSB5.out _ hB4.out) (fun hHeld => ?_)
    clear hK K
    try simp only [Act.put, List.setIfInBounds_toArray, List.set_cons_zero, List.set_cons_succ]
    refine wpAnyH_done (by kernel_rfl) ?_ _
    refine NoPanic.normal ?_
    exact REST'.out X x4 ⟨lX, hB4.out, HX_4.out⟩
  ·
   go_simp
   obtain ⟨X, hX⟩ : ∃ X, X = w5.drew.heap.size := ⟨_, rfl⟩
   go_wp2_with fail
   have eX : w5.heap.size = X := hX.symm
   rw [eX]
   have lX : w5.heap.size ≤ X := by rw [hX]; exact hB0.out.size
   have hB1 := Lib.hid (show Below w5.heap.size w5 (w5.alloc (.cells #[.string ⟨#[]⟩, .int .i64 0, .int .i64 0, .bool false, .bool false, .int .i64 0, .int .i64 0, .int .i64 0, .int .i64 0] 30)).drew from below_alloc hB0.out (.cells #[.string ⟨#[]⟩, .int .i64 0, .int .i64 0, .bool false, .bool false, .int .i64 0, .int .i64 0, .int .i64 0, .int .i64 0] 30))
   have HX_1 := Lib.hid (show (w5.alloc (.cells #[.string ⟨#[]⟩, .int .i64 0, .int .i64 0, .bool false, .bool false, .int .i64 0, .int .i64 0, .int .i64 0, .int .i64 0] 30)).drew.heap[X]? = some (.cells #[.string ⟨#[]⟩, .int .i64 0, .int .i64 0, .bool false, .bool false, .int .i64 0, .int .i64 0, .int .i64 0, .int .i64 0] 30 (0, 0)) from hX ▸ heap_alloc_new w5.drew (.cells #[.string ⟨#[]⟩, .int .i64 0, .int .i64 0, .bool false, .bool false, .int .i64 0, .int .i64 0, .int .i64 0, .int .i64 0] 30))
   clear eX hX
   generalize (w5.alloc (.cells #[.string ⟨#[]⟩, .int .i64 0, .int .i64 0, .bool false, .bool false, .int .i64 0, .int .i64 0, .int .i64 0, .int .i64 0] 30)).drew = x1 at *
   refine hK.out _ _ (hSB5.out _ hB1.out) (fun hHeld => ?_)
   clear hK K
   try simp only [Act.put, List.setIfInBounds_toArray, List.set_cons_zero, List.set_cons_succ]
   refine wpAnyH_ready (rs := [4]) (by kernel_rfl) (by simp) (AllReadyH.cons rfl (fun K hK => ?_) AllReadyH.nil)
   go_simp
   go_at_call 168
   with_reducible refine (L1.out _).mono ?_
   rintro e x2 ⟨rfl, hb⟩
   have hB2 := Lib.hid (below_next0 hB1.out hb)
   have HX_2 := Lib.hid ((hb.block _ (blk_lt HX_1.out)).trans HX_1.out)
   clear hb
   go_wp2_with fail
   refine hK.out _ _ (hSB5.out _ hB2.out) (fun hHeld => ?_)
   clear hK K
   try simp only [Act.put, List.setIfInBounds_toArray, List.set_cons_zero, List.set_cons_succ]
   refine wpAnyH_ready (rs := [9]) (by kernel_rfl) (by simp) (AllReadyH.cons rfl (fun K hK => ?_) AllReadyH.nil)
   go_simp
   with_reducible refine (L2.out _).mono ?_
   rintro e x3 ⟨rfl, hb⟩
   have hB3 := Lib.hid (below_next0 hB2.out hb)
   have HX_3 := Lib.hid ((hb.block _ (blk_lt HX_2.out)).trans HX_2.out)
   clear hb
   go_wp2_with fail
   refine hK.out _ _ (hSB5.out _ hB3.out) (fun hHeld => ?_)
   clear hK K
   try simp only [Act.put, List.setIfInBounds_toArray, List.set_cons_zero, List.set_cons_succ]
   refine wTake 11 ?_
   try simp only [Act.put, List.setIfInBounds_toArray, List.set_cons_zero, List.set_cons_succ]
   refine wpAnyH_ready (rs := [12]) (by kernel_rfl) (by simp) (AllReadyH.cons rfl (fun K hK => ?_) AllReadyH.nil)
   have z0 := blk_cell HX_3.out 0
   have y0 := blk_frozen HX_3.out 0
   have z1 := blk_cell HX_3.out 1
   have y1 := blk_frozen HX_3.out 1
   have z2 := blk_cell HX_3.out 2
   have y2 := blk_frozen HX_3.out 2
   have z3 := blk_cell HX_3.out 3
   have y3 := blk_frozen HX_3.out 3
   have z4 := blk_cell HX_3.out 4
   have y4 := blk_frozen HX_3.out 4
   have z5 := blk_cell HX_3.out 5
   have y5 := blk_frozen HX_3.out 5
   have z6 := blk_cell HX_3.out 6
   have y6 := blk_frozen HX_3.out 6
   have z7 := blk_cell HX_3.out 7
   have y7 := blk_frozen HX_3.out 7
   have z8 := blk_cell HX_3.out 8
   have y8 := blk_frozen HX_3.out 8
   simp only [List.getElem?_toArray, List.getElem?_cons_zero, List.getElem?_cons_succ] at z0 z1 z2 z3 z4 z5 z6 z7 z8
   go_simp
   clear z0 y0 z1 y1 z2 y2 z3 y3 z4 y4 z5 y5 z6 y6 z7 y7 z8 y8
   have hB4 := Lib.hid (show Below w5.heap.size w5 (((((((((x3.setCell ⟨X, 0, none⟩ (.string n0)).setCell ⟨X, 1, none⟩ (.int .i64 n1)).setCell ⟨X, 2, none⟩ (.int .i64 n2)).setCell ⟨X, 3, none⟩ (.bool n3)).setCell ⟨X, 4, none⟩ (.bool n4)).setCell ⟨X, 5, none⟩ (.int .i64 n5)).setCell ⟨X, 6, none⟩ (.int .i64 n6)).setCell ⟨X, 7, none⟩ (.int .i64 n7)).setCell ⟨X, 8, none⟩ (.int .i64 n8)) from (((((((((hB3.out.setCell (p := ⟨X, 0, none⟩) lX (.string n0)).setCell (p := ⟨X, 1, none⟩) lX (.int .i64 n1)).setCell (p := ⟨X, 2, none⟩) lX (.int .i64 n2)).setCell (p := ⟨X, 3, none⟩) lX (.bool n3)).setCell (p := ⟨X, 4, none⟩) lX (.bool n4)).setCell (p := ⟨X, 5, none⟩) lX (.int .i64 n5)).setCell (p := ⟨X, 6, none⟩) lX (.int .i64 n6)).setCell (p := ⟨X, 7, none⟩) lX (.int .i64 n7)).setCell (p := ⟨X, 8, none⟩) lX (.int .i64 n8)))
   have HX_4 := Lib.hid (show (((((((((x3.setCell ⟨X, 0, none⟩ (.string n0)).setCell ⟨X, 1, none⟩ (.int .i64 n1)).setCell ⟨X, 2, none⟩ (.int .i64 n2)).setCell ⟨X, 3, none⟩ (.bool n3)).setCell ⟨X, 4, none⟩ (.bool n4)).setCell ⟨X, 5, none⟩ (.int .i64 n5)).setCell ⟨X, 6, none⟩ (.int .i64 n6)).setCell ⟨X, 7, none⟩ (.int .i64 n7)).setCell ⟨X, 8, none⟩ (.int .i64 n8)).heap[X]? = some (.cells #[.string n0, .int .i64 n1, .int .i64 n2, .bool n3, .bool n4, .int .i64 n5, .int .i64 n6, .int .i64 n7, .int .i64 n8] 30 (0, 0)) from (blk_put (cs := #[.string n0, .int .i64 n1, .int .i64 n2, .bool n3, .bool n4, .int .i64 n5, .int .i64 n6, .int .i64 n7, .int .i64 0]) (blk_put (cs := #[.string n0, .int .i64 n1, .int .i64 n2, .bool n3, .bool n4, .int .i64 n5, .int .i64 n6, .int .i64 0, .int .i64 0]) (blk_put (cs := #[.string n0, .int .i64 n1, .int .i64 n2, .bool n3, .bool n4, .int .i64 n5, .int .i64 0, .int .i64 0, .int .i64 0]) (blk_put (cs := #[.string n0, .int .i64 n1, .int .i64 n2, .bool n3, .bool n4, .int .i64 0, .int .i64 0, .int .i64 0, .int .i64 0]) (blk_put (cs := #[.string n0, .int .i64 n1, .int .i64 n2, .bool n3, .bool false, .int .i64 0, .int .i64 0, .int .i64 0, .int .i64 0]) (blk_put (cs := #[.string n0, .int .i64 n1, .int .i64 n2, .bool false, .bool false, .int .i64 0, .int .i64 0, .int .i64 0, .int .i64 0]) (blk_put (cs := #[.string n0, .int .i64 n1, .int .i64 0, .bool false, .bool false, .int .i64 0, .int .i64 0, .int .i64 0, .int .i64 0]) (blk_put (cs := #[.string n0, .int .i64 0, .int .i64 0, .bool false, .bool false, .int .i64 0, .int .i64 0, .int .i64 0, .int .i64 0]) (blk_put (cs := #[.string ⟨#[]⟩, .int .i64 0, .int .i64 0, .bool false, .bool false, .int .i64 0, .int .i64 0, .int .i64 0, .int .i64 0]) HX_3.out 0 (.string n0) rfl) 1 (.int .i64 n1) rfl) 2 (.int .i64 n2) rfl) 3 (.bool n3) rfl) 4 (.bool n4) rfl) 5 (.int .i64 n5) rfl) 6 (.int .i64 n6) rfl) 7 (.int .i64 n7) rfl) 8 (.int .i64 n8) rfl))
   generalize (((((((((x3.setCell ⟨X, 0, none⟩ (.string n0)).setCell ⟨X, 1, none⟩ (.int .i64 n1)).setCell ⟨X, 2, none⟩ (.int .i64 n2)).setCell ⟨X, 3, none⟩ (.bool n3)).setCell ⟨X, 4, none⟩ (.bool n4)).setCell ⟨X, 5, none⟩ (.int .i64 n5)).setCell ⟨X, 6, none⟩ (.int .i64 n6)).setCell ⟨X, 7, none⟩ (.int .i64 n7)).setCell ⟨X, 8, none⟩ (.int .i64 n8)) = x4 at *
   refine hK.out _ _ (hSB5.out _ hB4.out) (fun hHeld => ?_)
   clear hK K
   try simp only [Act.put, List.setIfInBounds_toArray, List.set_cons_zero, List.set_cons_succ]
   refine wpAnyH_done (by kernel_rfl) ?_ _
   refine NoPanic.normal ?_
   exact REST'.out X x4 ⟨lX, hB4.out, HX_4.out⟩
 intro X w6 hf
 obtain ⟨lX, hb6, HX6⟩ := hf
 clear hSB5
 have HK6 := Lib.hid ((hb6.block _ (by have := blk_lt HK5.out; exact this)).trans HK5.out)
 have HS6 := Lib.hid ((hb6.block _ (by have := blk_lt HS5.out; exact this)).trans HS5.out)
 have HT6 := Lib.hid ((hb6.block _ (by have := blk_lt HT5.out; exact this)).trans HT5.out)
 have HU6 := Lib.hid ((hb6.block _ (by have := blk_lt HU5.out; exact this)).trans HU5.out)
 have HB6 := Lib.hid ((HB5.out).trans (hb6.mono (by have := HB5.out.size; omega)))
 clear hb6
 have HX6 := Lib.hid HX6
 try dsimp only
 have hcK0 := blk_cell HK6.out 0
 have hcK1 := blk_cell HK6.out 1
 have hcK2 := blk_cell HK6.out 2
 have hcK3 := blk_cell HK6.out 3
 have hcK4 := blk_cell HK6.out 4
 have hcK5 := blk_cell HK6.out 5
 have hcK6 := blk_cell HK6.out 6
 have hcK7 := blk_cell HK6.out 7
 have hcK8 := blk_cell HK6.out 8
 have hlK := blk_lt HK6.out
 have hcX0 := blk_cell HX6.out 0
 have hcX1 := blk_cell HX6.out 1
 have hcX2 := blk_cell HX6.out 2
 have hcX3 := blk_cell HX6.out 3
 have hcX4 := blk_cell HX6.out 4
 have hcX5 := blk_cell HX6.out 5
 have hcX6 := blk_cell HX6.out 6
 have hcX7 := blk_cell HX6.out 7
 have hcX8 := blk_cell HX6.out 8
 have hlX := blk_lt HX6.out
 simp only [List.getElem?_toArray, List.getElem?_cons_zero, List.getElem?_cons_succ] at hcK0 hcK1 hcK2 hcK3 hcK4 hcK5 hcK6 hcK7 hcK8 hcX0 hcX1 hcX2 hcX3 hcX4 hcX5 hcX6 hcX7 hcX8
 have hSB6 := Lib.hid (show ∀ W, Below w6.heap.size w6 W → (fun W => W.cell? ⟨w.heap.size, 0, none⟩ = some (.string rep) ∧ W.cell? ⟨w.heap.size, 1, none⟩ = some (.int .i64 ep) ∧ W.cell? ⟨w.heap.size, 2, none⟩ = some (.int .i64 tm) ∧ W.cell? ⟨w.heap.size, 3, none⟩ = some (.bool gone) ∧ W.cell? ⟨w.heap.size, 4, none⟩ = some (.bool there) ∧ W.cell? ⟨w.heap.size, 5, none⟩ = some (.int .i64 mod) ∧ W.cell? ⟨w.heap.size, 6, none⟩ = some (.int .i64 live) ∧ W.cell? ⟨w.heap.size, 7, none⟩ = some (.int .i64 eps) ∧ W.cell? ⟨w.heap.size, 8, none⟩ = some (.int .i64 tmod) ∧ W.cell? ⟨X, 0, none⟩ = some (.string n0) ∧ W.cell? ⟨X, 1, none⟩ = some (.int .i64 n1) ∧ W.cell? ⟨X, 2, none⟩ = some (.int .i64 n2) ∧ W.cell? ⟨X, 3, none⟩ = some (.bool n3) ∧ W.cell? ⟨X, 4, none⟩ = some (.bool n4) ∧ W.cell? ⟨X, 5, none⟩ = some (.int .i64 n5) ∧ W.cell? ⟨X, 6, none⟩ = some (.int .i64 n6) ∧ W.cell? ⟨X, 7, none⟩ = some (.int .i64 n7) ∧ W.cell? ⟨X, 8, none⟩ = some (.int .i64 n8)) W from fun W hW => ⟨(hW.cell (p := ⟨w.heap.size, 0, none⟩) (by have := blk_lt HK6.out; omega)).trans hcK0, (hW.cell (p := ⟨w.heap.size, 1, none⟩) (by have := blk_lt HK6.out; omega)).trans hcK1, (hW.cell (p := ⟨w.heap.size, 2, none⟩) (by have := blk_lt HK6.out; omega)).trans hcK2, (hW.cell (p := ⟨w.heap.size, 3, none⟩) (by have := blk_lt HK6.out; omega)).trans hcK3, (hW.cell (p := ⟨w.heap.size, 4, none⟩) (by have := blk_lt HK6.out; omega)).trans hcK4, (hW.cell (p := ⟨w.heap.size, 5, none⟩) (by have := blk_lt HK6.out; omega)).trans hcK5, (hW.cell (p := ⟨w.heap.size, 6, none⟩) (by have := blk_lt HK6.out; omega)).trans hcK6, (hW.cell (p := ⟨w.heap.size, 7, none⟩) (by have := blk_lt HK6.out; omega)).trans hcK7, (hW.cell (p := ⟨w.heap.size, 8, none⟩) (by have := blk_lt HK6.out; omega)).trans hcK8, (hW.cell (p := ⟨X, 0, none⟩) (by have := blk_lt HX6.out; omega)).trans hcX0, (hW.cell (p := ⟨X, 1, none⟩) (by have := blk_lt HX6.out; omega)).trans hcX1, (hW.cell (p := ⟨X, 2, none⟩) (by have := blk_lt HX6.out; omega)).trans hcX2, (hW.cell (p := ⟨X, 3, none⟩) (by have := blk_lt HX6.out; omega)).trans hcX3, (hW.cell (p := ⟨X, 4, none⟩) (by have := blk_lt HX6.out; omega)).trans hcX4, (hW.cell (p := ⟨X, 5, none⟩) (by have := blk_lt HX6.out; omega)).trans hcX5, (hW.cell (p := ⟨X, 6, none⟩) (by have := blk_lt HX6.out; omega)).trans hcX6, (hW.cell (p := ⟨X, 7, none⟩) (by have := blk_lt HX6.out; omega)).trans hcX7, (hW.cell (p := ⟨X, 8, none⟩) (by have := blk_lt HX6.out; omega)).trans hcX8⟩)
 clear hcK0 hcK1 hcK2 hcK3 hcK4 hcK5 hcK6 hcK7 hcK8 hcX0 hcX1 hcX2 hcX3 hcX4 hcX5 hcX6 hcX7 hcX8 hlK hlX
 go_wp2_with fail
 apply cutABY (fun A B Y W => w6.heap.size ≤ A ∧ w6.heap.size ≤ B ∧ w6.heap.size ≤ Y ∧ Below w6.heap.size w6 W ∧ W.heap[A]? = some (.cells #[.string ⟨(clusterK t.data.toList c.data.toList).toArray⟩, .int .i64 mod] 73 (0, 0)) ∧ W.heap[B]? = some (.cells #[.bool o1, .string o2, .string o3] 85 (0, 0)) ∧ W.heap[Y]? = some (.cells #[.slice none 0 0, .slice none 0 0] 34 (0, 0)))
 ·
  intro REST
  have REST' := Lib.hid REST
  clear REST
  refine wp_region_noPanic ?_
  refine wp_region_held_drew (S := fun W => W.cell? ⟨w.heap.size, 0, none⟩ = some (.string rep) ∧ W.cell? ⟨w.heap.size, 1, none⟩ = some (.int .i64 ep) ∧ W.cell? ⟨w.heap.size, 2, none⟩ = some (.int .i64 tm) ∧ W.cell? ⟨w.heap.size, 3, none⟩ = some (.bool gone) ∧ W.cell? ⟨w.heap.size, 4, none⟩ = some (.bool there) ∧ W.cell? ⟨w.heap.size, 5, none⟩ = some (.int .i64 mod) ∧ W.cell? ⟨w.heap.size, 6, none⟩ = some (.int .i64 live) ∧ W.cell? ⟨w.heap.size, 7, none⟩ = some (.int .i64 eps) ∧ W.cell? ⟨w.heap.size, 8, none⟩ = some (.int .i64 tmod) ∧ W.cell? ⟨X, 0, none⟩ = some (.string n0) ∧ W.cell? ⟨X, 1, none⟩ = some (.int .i64 n1) ∧ W.cell? ⟨X, 2, none⟩ = some (.int .i64 n2) ∧ W.cell? ⟨X, 3, none⟩ = some (.bool n3) ∧ W.cell? ⟨X, 4, none⟩ = some (.bool n4) ∧ W.cell? ⟨X, 5, none⟩ = some (.int .i64 n5) ∧ W.cell? ⟨X, 6, none⟩ = some (.int .i64 n6) ∧ W.cell? ⟨X, 7, none⟩ = some (.int .i64 n7) ∧ W.cell? ⟨X, 8, none⟩ = some (.int .i64 n8)) (by kernel_rfl) (hSB6.out _ (Below.refl _ _).drew) (fun hHeld => ?_)
  have hB0 := Lib.hid (show Below w6.heap.size w6 w6.drew from (Below.refl _ _).drew)
  refine wTake 0 ?_
  refine wTake 1 ?_
  refine wTake 2 ?_
  refine wTake 3 ?_
  refine wTake 5 ?_
  refine wTake 6 ?_
  try simp only [Act.put, List.setIfInBounds_toArray, List.set_cons_zero, List.set_cons_succ]
  refine wpAnyH_ready (rs := [4, 7, 10]) (by kernel_rfl) (by simp) (AllReadyH.cons rfl (fun K hK => ?_) (AllReadyH.cons rfl (fun K hK => ?_) (AllReadyH.cons rfl (fun K hK => ?_) AllReadyH.nil)))
  ·
   go_simp
   obtain ⟨A, hA⟩ : ∃ X, X = w6.drew.heap.size := ⟨_, rfl⟩
   go_wp2_with fail
   have eA : w6.heap.size = A := hA.symm
   rw [eA]
   have lA : w6.heap.size ≤ A := by rw [hA]; exact hB0.out.size
   have hB1 := Lib.hid (show Below w6.heap.size w6 (w6.alloc (.cells #[.string ⟨(clusterK t.data.toList c.data.toList).toArray⟩, .int .i64 mod] 73)).drew from below_alloc hB0.out (.cells #[.string ⟨(clusterK t.data.toList c.data.toList).toArray⟩, .int .i64 mod] 73))
   have HA_1 := Lib.hid (show (w6.alloc (.cells #[.string ⟨(clusterK t.data.toList c.data.toList).toArray⟩, .int .i64 mod] 73)).drew.heap[A]? = some (.cells #[.string ⟨(clusterK t.data.toList c.data.toList).toArray⟩, .int .i64 mod] 73 (0, 0)) from hA ▸ heap_alloc_new w6.drew (.cells #[.string ⟨(clusterK t.data.toList c.data.toList).toArray⟩, .int .i64 mod] 73))
   clear eA hA
   generalize (w6.alloc (.cells #[.string ⟨(clusterK t.data.toList c.data.toList).toArray⟩, .int .i64 mod] 73)).drew = x1 at *
   refine hK.out _ _ (hSB6.out _ hB1.out) (fun hHeld => ?_)
   clear hK K
   try simp only [Act.put, List.setIfInBounds_toArray, List.set_cons_zero, List.set_cons_succ]
   refine wpAnyH_ready (rs := [7, 10]) (by kernel_rfl) (by simp) (AllReadyH.cons rfl (fun K hK => ?_) (AllReadyH.cons rfl (fun K hK => ?_) AllReadyH.nil))
   ·
    go_simp
    go_at_call 169
    with_reducible refine (P1.out _).mono ?_
    rintro e x2 ⟨rfl, hb⟩
    have hB2 := Lib.hid (below_next0 hB1.out hb)
    have HA_2 := Lib.hid ((hb.block _ (blk_lt HA_1.out)).trans HA_1.out)
    clear hb
    go_wp2_with fail
    refine hK.out _ _ (hSB6.out _ hB2.out) (fun hHeld => ?_)
    clear hK K
    try simp only [Act.put, List.setIfInBounds_toArray, List.set_cons_zero, List.set_cons_succ]
    refine wpAnyH_ready (rs := [8, 10]) (by kernel_rfl) (by simp) (AllReadyH.cons rfl (fun K hK => ?_) (AllReadyH.cons rfl (fun K hK => ?_) AllReadyH.nil))
    ·
     go_simp
     obtain ⟨B, hB⟩ : ∃ X, X = x2.heap.size := ⟨_, rfl⟩
     go_wp2_with fail
     have eB : x2.heap.size = B := hB.symm
     rw [eB]
     have lB : w6.heap.size ≤ B := by rw [hB]; exact hB2.out.size
     have hB3 := Lib.hid (show Below w6.heap.size w6 (x2.alloc (.cells #[.bool o1, .string o2, .string o3] 85)) from below_alloc hB2.out (.cells #[.bool o1, .string o2, .string o3] 85))
     have HB_3 := Lib.hid (show (x2.alloc (.cells #[.bool o1, .string o2, .string o3] 85)).heap[B]? = some (.cells #[.bool o1, .string o2, .string o3] 85 (0, 0)) from hB ▸ heap_alloc_new x2 (.cells #[.bool o1, .string o2, .string o3] 85))
     have HA_3 := Lib.hid (show (x2.alloc (.cells #[.bool o1, .string o2, .string o3] 85)).heap[A]? = _ from blk_alloc HA_2.out (.cells #[.bool o1, .string o2, .string o3] 85))
     clear eB hB
     generalize (x2.alloc (.cells #[.bool o1, .string o2, .string o3] 85)) = x3 at *
     refine hK.out _ _ (hSB6.out _ hB3.out) (fun hHeld => ?_)
     clear hK K
     try simp only [Act.put, List.setIfInBounds_toArray, List.set_cons_zero, List.set_cons_succ]
     refine wTake 9 ?_
     try simp only [Act.put, List.setIfInBounds_toArray, List.set_cons_zero, List.set_cons_succ]
     refine wpAnyH_ready (rs := [10]) (by kernel_rfl) (by simp) (AllReadyH.cons rfl (fun K hK => ?_) AllReadyH.nil)
     go_simp
     obtain ⟨Y, hY⟩ : ∃ X, X = x3.heap.size := ⟨_, rfl⟩
     go_wp2_with fail
     have eY : x3.heap.size = Y := hY.symm
     rw [eY]
     have lY : w6.heap.size ≤ Y := by rw [hY]; exact hB3.out.size
     have hB4 := Lib.hid (show Below w6.heap.size w6 (x3.alloc (.cells #[.slice none 0 0, .slice none 0 0] 34)) from below_alloc hB3.out (.cells #[.slice none 0 0, .slice none 0 0] 34))
     have HY_4 := Lib.hid (show (x3.alloc (.cells #[.slice none 0 0, .slice none 0 0] 34)).heap[Y]? = some (.cells #[.slice none 0 0, .slice none 0 0] 34 (0, 0)) from hY ▸ heap_alloc_new x3 (.cells #[.slice none 0 0, .slice none 0 0] 34))
     have HA_4 := Lib.hid (show (x3.alloc (.cells #[.slice none 0 0, .slice none 0 0] 34)).heap[A]? = _ from blk_alloc HA_3.out (.cells #[.slice none 0 0, .slice none 0 0] 34))
     have HB_4 := Lib.hid (show (x3.alloc (.cells #[.slice none 0 0, .slice none 0 0] 34)).heap[B]? = _ from blk_alloc HB_3.out (.cells #[.slice none 0 0, .slice none 0 0] 34))
     clear eY hY
     generalize (x3.alloc (.cells #[.slice none 0 0, .slice none 0 0] 34)) = x4 at *
     refine hK.out _ _ (hSB6.out _ hB4.out) (fun hHeld => ?_)
     clear hK K
     try simp only [Act.put, List.setIfInBounds_toArray, List.set_cons_zero, List.set_cons_succ]
     refine wpAnyH_cast (l' := #[true, true, true, true, true, true, true, true, true, true, true, false]) (by kernel_rfl) ?_
     exact REST'.out A B Y x4 ⟨lA, lB, lY, hB4.out, HA_4.out, HB_4.out, HY_4.out⟩
    ·
     go_simp
     obtain ⟨Y, hY⟩ : ∃ X, X = x2.heap.size := ⟨_, rfl⟩
     go_wp2_with fail
     have eY : x2.heap.size = Y := hY.symm
     rw [eY]
     have lY : w6.heap.size ≤ Y := by rw [hY]; exact hB2.out.size
     have hB3 := Lib.hid (show Below w6.heap.size w6 (x2.alloc (.cells #[.slice none 0 0, .slice none 0 0] 34)) from below_alloc hB2.out (.cells #[.slice none 0 0, .slice none 0 0] 34))
     have HY_3 := Lib.hid (show (x2.alloc (.cells #[.slice none 0 0, .slice none 0 0] 34)).heap[Y]? = some (.cells #[.slice none 0 0, .slice none 0 0] 34 (0, 0)) from hY ▸ heap_alloc_new x2 (.cells #[.slice none 0 0, .slice none 0 0] 34))
     have HA_3 := Lib.hid (show (x2.alloc (.cells #[.slice none 0 0, .slice none 0 0] 34)).heap[A]? = _ from blk_alloc HA_2.out (.cells #[.slice none 0 0, .slice none 0 0] 34))
     clear eY hY
     generalize (x2.alloc (.cells #[.slice none 0 0, .slice none 0 0] 34)) = x3 at *
     refine hK.out _ _ (hSB6.out _ hB3.out) (fun hHeld => ?_)
     clear hK K
     try simp only [Act.put, List.setIfInBounds_toArray, List.set_cons_zero, List.set_cons_succ]
     refine wpAnyH_ready (rs := [8]) (by kernel_rfl) (by simp) (AllReadyH.cons rfl (fun K hK => ?_) AllReadyH.nil)
     go_simp
     obtain ⟨B, hB⟩ : ∃ X, X = x3.heap.size := ⟨_, rfl⟩
     go_wp2_with fail
     have eB : x3.heap.size = B := hB.symm
     rw [eB]
     have lB : w6.heap.size ≤ B := by rw [hB]; exact hB3.out.size
     have hB4 := Lib.hid (show Below w6.heap.size w6 (x3.alloc (.cells #[.bool o1, .string o2, .string o3] 85)) from below_alloc hB3.out (.cells #[.bool o1, .string o2, .string o3] 85))
     have HB_4 := Lib.hid (show (x3.alloc (.cells #[.bool o1, .string o2, .string o3] 85)).heap[B]? = some (.cells #[.bool o1, .string o2, .string o3] 85 (0, 0)) from hB ▸ heap_alloc_new x3 (.cells #[.bool o1, .string o2, .string o3] 85))
     have HA_4 := Lib.hid (show (x3.alloc (.cells #[.bool o1, .string o2, .string o3] 85)).heap[A]? = _ from blk_alloc HA_3.out (.cells #[.bool o1, .string o2, .string o3] 85))
     have HY_4 := Lib.hid (show (x3.alloc (.cells #[.bool o1, .string o2, .string o3] 85)).heap[Y]? = _ from blk_alloc HY_3.out (.cells #[.bool o1, .string o2, .string o3] 85))
     clear eB hB
     generalize (x3.alloc (.cells #[.bool o1, .string o2, .string o3] 85)) = x4 at *
     refine hK.out _ _ (hSB6.out _ hB4.out) (fun hHeld => ?_)
     clear hK K
     try simp only [Act.put, List.setIfInBounds_toArray, List.set_cons_zero, List.set_cons_succ]
     refine wTake 9 ?_
     try simp only [Act.put, List.setIfInBounds_toArray, List.set_cons_zero, List.set_cons_succ]
     refine wpAnyH_cast (l' := #[true, true, true, true, true, true, true, true, true, true, true, false]) (by kernel_rfl) ?_
     exact REST'.out A B Y x4 ⟨lA, lB, lY, hB4.out, HA_4.out, HB_4.out, HY_4.out⟩
   ·
    go_simp
    obtain ⟨Y, hY⟩ : ∃ X, X = x1.heap.size := ⟨_, rfl⟩
    go_wp2_with fail
    have eY : x1.heap.size = Y := hY.symm
    rw [eY]
    have lY : w6.heap.size ≤ Y := by rw [hY]; exact hB1.out.size
    have hB2 := Lib.hid (show Below w6.heap.size w6 (x1.alloc (.cells #[.slice none 0 0, .slice none 0 0] 34)) from below_alloc hB1.out (.cells #[.slice none 0 0, .slice none 0 0] 34))
    have HY_2 := Lib.hid (show (x1.alloc (.cells #[.slice none 0 0, .slice none 0 0] 34)).heap[Y]? = some (.cells #[.slice none 0 0, .slice none 0 0] 34 (0, 0)) from hY ▸ heap_alloc_new x1 (.cells #[.slice none 0 0, .slice none 0 0] 34))
    have HA_2 := Lib.hid (show (x1.alloc (.cells #[.slice none 0 0, .slice none 0 0] 34)).heap[A]? = _ from blk_alloc HA_1.out (.cells #[.slice none 0 0, .slice none 0 0] 34))
    clear eY hY
    generalize (x1.alloc (.cells #[.slice none 0 0, .slice none 0 0] 34)) = x2 at *
    refine hK.out _ _ (hSB6.out _ hB2.out) (fun hHeld => ?_)
    clear hK K
    try simp only [Act.put, List.setIfInBounds_toArray, List.set_cons_zero, List.set_cons_succ]
    refine wpAnyH_ready (rs := [7]) (by kernel_rfl) (by simp) (AllReadyH.cons rfl (fun K hK => ?_) AllReadyH.nil)
    go_simp
    go_at_call 169
    with_reducible refine (P1.out _).mono ?_
    rintro e x3 ⟨rfl, hb⟩
    have hB3 := Lib.hid (below_next0 hB2.out hb)
    have HA_3 := Lib.hid ((hb.block _ (blk_lt HA_2.out)).trans HA_2.out)
    have HY_3 := Lib.hid ((hb.block _ (blk_lt HY_2.out)).trans HY_2.out)
    clear hb
    go_wp2_with fail
    refine hK.out _ _ (hSB6.out _ hB3.out) (fun hHeld => ?_)
    clear hK K
    try simp only [Act.put, List.setIfInBounds_toArray, List.set_cons_zero, List.set_cons_succ]
    refine wpAnyH_ready (rs := [8]) (by kernel_rfl) (by simp) (AllReadyH.cons rfl (fun K hK => ?_) AllReadyH.nil)
    go_simp
    obtain ⟨B, hB⟩ : ∃ X, X = x3.heap.size := ⟨_, rfl⟩
    go_wp2_with fail
    have eB : x3.heap.size = B := hB.symm
    rw [eB]
    have lB : w6.heap.size ≤ B := by rw [hB]; exact hB3.out.size
    have hB4 := Lib.hid (show Below w6.heap.size w6 (x3.alloc (.cells #[.bool o1, .string o2, .string o3] 85)) from below_alloc hB3.out (.cells #[.bool o1, .string o2, .string o3] 85))
    have HB_4 := Lib.hid (show (x3.alloc (.cells #[.bool o1, .string o2, .string o3] 85)).heap[B]? = some (.cells #[.bool o1, .string o2, .string o3] 85 (0, 0)) from hB ▸ heap_alloc_new x3 (.cells #[.bool o1, .string o2, .string o3] 85))
    have HA_4 := Lib.hid (show (x3.alloc (.cells #[.bool o1, .string o2, .string o3] 85)).heap[A]? = _ from blk_alloc HA_3.out (.cells #[.bool o1, .string o2, .string o3] 85))
    have HY_4 := Lib.hid (show (x3.alloc (.cells #[.bool o1, .string o2, .string o3] 85)).heap[Y]? = _ from blk_alloc HY_3.out (.cells #[.bool o1, .string o2, .string o3] 85))
    clear eB hB
    generalize (x3.alloc (.cells #[.bool o1, .string o2, .string o3] 85)) = x4 at *
    refine hK.out _ _ (hSB6.out _ hB4.out) (fun hHeld => ?_)
    clear hK K
    try simp only [Act.put, List.setIfInBounds_toArray, List.set_cons_zero, List.set_cons_succ]
    refine wTake 9 ?_
    try simp only [Act.put, List.setIfInBounds_toArray, List.set_cons_zero, List.set_cons_succ]
    refine wpAnyH_cast (l' := #[true, true, true, true, true, true, true, true, true, true, true, false]) (by kernel_rfl) ?_
    exact REST'.out A B Y x4 ⟨lA, lB, lY, hB4.out, HA_4.out, HB_4.out, HY_4.out⟩
  ·
   go_simp
   go_at_call 169
   with_reducible refine (P1.out _).mono ?_
   rintro e x1 ⟨rfl, hb⟩
   have hB1 := Lib.hid (below_next0 hB0.out hb)
   clear hb
   go_wp2_with fail
   refine hK.out _ _ (hSB6.out _ hB1.out) (fun hHeld => ?_)
   clear hK K
   try simp only [Act.put, List.setIfInBounds_toArray, List.set_cons_zero, List.set_cons_succ]
   refine wpAnyH_ready (rs := [4, 8, 10]) (by kernel_rfl) (by simp) (AllReadyH.cons rfl (fun K hK => ?_) (AllReadyH.cons rfl (fun K hK => ?_) (AllReadyH.cons rfl (fun K hK => ?_) AllReadyH.nil)))
   ·
    go_simp
    obtain ⟨A, hA⟩ : ∃ X, X = x1.heap.size := ⟨_, rfl⟩
    go_wp2_with fail
    have eA : x1.heap.size = A := hA.symm
    rw [eA]
    have lA : w6.heap.size ≤ A := by rw [hA]; exact hB1.out.size
    have hB2 := Lib.hid (show Below w6.heap.size w6 (x1.alloc (.cells #[.string ⟨(clusterK t.data.toList c.data.toList).toArray⟩, .int .i64 mod] 73)) from below_alloc hB1.out (.cells #[.string ⟨(clusterK t.data.toList c.data.toList).toArray⟩, .int .i64 mod] 73))
    have HA_2 := Lib.hid (show (x1.alloc (.cells #[.string ⟨(clusterK t.data.toList c.data.toList).toArray⟩, .int .i64 mod] 73)).heap[A]? = some (.cells #[.string ⟨(clusterK t.data.toList c.data.toList).toArray⟩, .int .i64 mod] 73 (0, 0)) from hA ▸ heap_alloc_new x1 (.cells #[.string ⟨(clusterK t.data.toList c.data.toList).toArray⟩, .int .i64 mod] 73))
    clear eA hA
    generalize (x1.alloc (.cells #[.string ⟨(clusterK t.data.toList c.data.toList).toArray⟩, .int .i64 mod] 73)) = x2 at *
    refine hK.out _ _ (hSB6.out _ hB2.out) (fun hHeld => ?_)
    clear hK K
    try simp only [Act.put, List.setIfInBounds_toArray, List.set_cons_zero, List.set_cons_succ]
    refine wpAnyH_ready (rs := [8, 10]) (by kernel_rfl) (by simp) (AllReadyH.cons rfl (fun K hK => ?_) (AllReadyH.cons rfl (fun K hK => ?_) AllReadyH.nil))
    ·
     go_simp
     obtain ⟨B, hB⟩ : ∃ X, X = x2.heap.size := ⟨_, rfl⟩
     go_wp2_with fail
     have eB : x2.heap.size = B := hB.symm
     rw [eB]
     have lB : w6.heap.size ≤ B := by rw [hB]; exact hB2.out.size
     have hB3 := Lib.hid (show Below w6.heap.size w6 (x2.alloc (.cells #[.bool o1, .string o2, .string o3] 85)) from below_alloc hB2.out (.cells #[.bool o1, .string o2, .string o3] 85))
     have HB_3 := Lib.hid (show (x2.alloc (.cells #[.bool o1, .string o2, .string o3] 85)).heap[B]? = some (.cells #[.bool o1, .string o2, .string o3] 85 (0, 0)) from hB ▸ heap_alloc_new x2 (.cells #[.bool o1, .string o2, .string o3] 85))
     have HA_3 := Lib.hid (show (x2.alloc (.cells #[.bool o1, .string o2, .string o3] 85)).heap[A]? = _ from blk_alloc HA_2.out (.cells #[.bool o1, .string o2, .string o3] 85))
     clear eB hB
     generalize (x2.alloc (.cells #[.bool o1, .string o2, .string o3] 85)) = x3 at *
     refine hK.out _ _ (hSB6.out _ hB3.out) (fun hHeld => ?_)
     clear hK K
     try simp only [Act.put, List.setIfInBounds_toArray, List.set_cons_zero, List.set_cons_succ]
     refine wTake 9 ?_
     try simp only [Act.put, List.setIfInBounds_toArray, List.set_cons_zero, List.set_cons_succ]
     refine wpAnyH_ready (rs := [10]) (by kernel_rfl) (by simp) (AllReadyH.cons rfl (fun K hK => ?_) AllReadyH.nil)
     go_simp
     obtain ⟨Y, hY⟩ : ∃ X, X = x3.heap.size := ⟨_, rfl⟩
     go_wp2_with fail
     have eY : x3.heap.size = Y := hY.symm
     rw [eY]
     have lY : w6.heap.size ≤ Y := by rw [hY]; exact hB3.out.size
     have hB4 := Lib.hid (show Below w6.heap.size w6 (x3.alloc (.cells #[.slice none 0 0, .slice none 0 0] 34)) from below_alloc hB3.out (.cells #[.slice none 0 0, .slice none 0 0] 34))
     have HY_4 := Lib.hid (show (x3.alloc (.cells #[.slice none 0 0, .slice none 0 0] 34)).heap[Y]? = some (.cells #[.slice none 0 0, .slice none 0 0] 34 (0, 0)) from hY ▸ heap_alloc_new x3 (.cells #[.slice none 0 0, .slice none 0 0] 34))
     have HA_4 := Lib.hid (show (x3.alloc (.cells #[.slice none 0 0, .slice none 0 0] 34)).heap[A]? = _ from blk_alloc HA_3.out (.cells #[.slice none 0 0, .slice none 0 0] 34))
     have HB_4 := Lib.hid (show (x3.alloc (.cells #[.slice none 0 0, .slice none 0 0] 34)).heap[B]? = _ from blk_alloc HB_3.out (.cells #[.slice none 0 0, .slice none 0 0] 34))
     clear eY hY
     generalize (x3.alloc (.cells #[.slice none 0 0, .slice none 0 0] 34)) = x4 at *
     refine hK.out _ _ (hSB6.out _ hB4.out) (fun hHeld => ?_)
     clear hK K
     try simp only [Act.put, List.setIfInBounds_toArray, List.set_cons_zero, List.set_cons_succ]
     refine wpAnyH_cast (l' := #[true, true, true, true, true, true, true, true, true, true, true, false]) (by kernel_rfl) ?_
     exact REST'.out A B Y x4 ⟨lA, lB, lY, hB4.out, HA_4.out, HB_4.out, HY_4.out⟩
    ·
     go_simp
     obtain ⟨Y, hY⟩ : ∃ X, X = x2.heap.size := ⟨_, rfl⟩
     go_wp2_with fail
     have eY : x2.heap.size = Y := hY.symm
     rw [eY]
     have lY : w6.heap.size ≤ Y := by rw [hY]; exact hB2.out.size
     have hB3 := Lib.hid (show Below w6.heap.size w6 (x2.alloc (.cells #[.slice none 0 0, .slice none 0 0] 34)) from below_alloc hB2.out (.cells #[.slice none 0 0, .slice none 0 0] 34))
     have HY_3 := Lib.hid (show (x2.alloc (.cells #[.slice none 0 0, .slice none 0 0] 34)).heap[Y]? = some (.cells #[.slice none 0 0, .slice none 0 0] 34 (0, 0)) from hY ▸ heap_alloc_new x2 (.cells #[.slice none 0 0, .slice none 0 0] 34))
     have HA_3 := Lib.hid (show (x2.alloc (.cells #[.slice none 0 0, .slice none 0 0] 34)).heap[A]? = _ from blk_alloc HA_2.out (.cells #[.slice none 0 0, .slice none 0 0] 34))
     clear eY hY
     generalize (x2.alloc (.cells #[.slice none 0 0, .slice none 0 0] 34)) = x3 at *
     refine hK.out _ _ (hSB6.out _ hB3.out) (fun hHeld => ?_)
     clear hK K
     try simp only [Act.put, List.setIfInBounds_toArray, List.set_cons_zero, List.set_cons_succ]
     refine wpAnyH_ready (rs := [8]) (by kernel_rfl) (by simp) (AllReadyH.cons rfl (fun K hK => ?_) AllReadyH.nil)
     go_simp
     obtain ⟨B, hB⟩ : ∃ X, X = x3.heap.size := ⟨_, rfl⟩
     go_wp2_with fail
     have eB : x3.heap.size = B := hB.symm
     rw [eB]
     have lB : w6.heap.size ≤ B := by rw [hB]; exact hB3.out.size
     have hB4 := Lib.hid (show Below w6.heap.size w6 (x3.alloc (.cells #[.bool o1, .string o2, .string o3] 85)) from below_alloc hB3.out (.cells #[.bool o1, .string o2, .string o3] 85))
     have HB_4 := Lib.hid (show (x3.alloc (.cells #[.bool o1, .string o2, .string o3] 85)).heap[B]? = some (.cells #[.bool o1, .string o2, .string o3] 85 (0, 0)) from hB ▸ heap_alloc_new x3 (.cells #[.bool o1, .string o2, .string o3] 85))
     have HA_4 := Lib.hid (show (x3.alloc (.cells #[.bool o1, .string o2, .string o3] 85)).heap[A]? = _ from blk_alloc HA_3.out (.cells #[.bool o1, .string o2, .string o3] 85))
     have HY_4 := Lib.hid (show (x3.alloc (.cells #[.bool o1, .string o2, .string o3] 85)).heap[Y]? = _ from blk_alloc HY_3.out (.cells #[.bool o1, .string o2, .string o3] 85))
     clear eB hB
     generalize (x3.alloc (.cells #[.bool o1, .string o2, .string o3] 85)) = x4 at *
     refine hK.out _ _ (hSB6.out _ hB4.out) (fun hHeld => ?_)
     clear hK K
     try simp only [Act.put, List.setIfInBounds_toArray, List.set_cons_zero, List.set_cons_succ]
     refine wTake 9 ?_
     try simp only [Act.put, List.setIfInBounds_toArray, List.set_cons_zero, List.set_cons_succ]
     refine wpAnyH_cast (l' := #[true, true, true, true, true, true, true, true, true, true, true, false]) (by kernel_rfl) ?_
     exact REST'.out A B Y x4 ⟨lA, lB, lY, hB4.out, HA_4.out, HB_4.out, HY_4.out⟩
   ·
    go_simp
    obtain ⟨B, hB⟩ : ∃ X, X = x1.heap.size := ⟨_, rfl⟩
    go_wp2_with fail
    have eB : x1.heap.size = B := hB.symm
    rw [eB]
    have lB : w6.heap.size ≤ B := by rw [hB]; exact hB1.out.size
    have hB2 := Lib.hid (show Below w6.heap.size w6 (x1.alloc (.cells #[.bool o1, .string o2, .string o3] 85)) from below_alloc hB1.out (.cells #[.bool o1, .string o2, .string o3] 85))
    have HB_2 := Lib.hid (show (x1.alloc (.cells #[.bool o1, .string o2, .string o3] 85)).heap[B]? = some (.cells #[.bool o1, .string o2, .string o3] 85 (0, 0)) from hB ▸ heap_alloc_new x1 (.cells #[.bool o1, .string o2, .string o3] 85))
    clear eB hB
    generalize (x1.alloc (.cells #[.bool o1, .string o2, .string o3] 85)) = x2 at *
    refine hK.out _ _ (hSB6.out _ hB2.out) (fun hHeld => ?_)
    clear hK K
    try simp only [Act.put, List.setIfInBounds_toArray, List.set_cons_zero, List.set_cons_succ]
    refine wpAnyH_ready (rs := [4, 10]) (by kernel_rfl) (by simp) (AllReadyH.cons rfl (fun K hK => ?_) (AllReadyH.cons rfl (fun K hK => ?_) AllReadyH.nil))
    ·
     go_simp
     obtain ⟨A, hA⟩ : ∃ X, X = x2.heap.size := ⟨_, rfl⟩
     go_wp2_with fail
     have eA : x2.heap.size = A := hA.symm
     rw [eA]
     have lA : w6.heap.size ≤ A := by rw [hA]; exact hB2.out.size
     have hB3 := Lib.hid (show Below w6.heap.size w6 (x2.alloc (.cells #[.string ⟨(clusterK t.data.toList c.data.toList).toArray⟩, .int .i64 mod] 73)) from below_alloc hB2.out (.cells #[.string ⟨(clusterK t.data.toList c.data.toList).toArray⟩, .int .i64 mod] 73))
     have HA_3 := Lib.hid (show (x2.alloc (.cells #[.string ⟨(clusterK t.data.toList c.data.toList).toArray⟩, .int .i64 mod] 73)).heap[A]? = some (.cells #[.string ⟨(clusterK t.data.toList c.data.toList).toArray⟩, .int .i64 mod] 73 (0, 0)) from hA ▸ heap_alloc_new x2 (.cells #[.string ⟨(clusterK t.data.toList c.data.toList).toArray⟩, .int .i64 mod] 73))
     have HB_3 := Lib.hid (show (x2.alloc (.cells #[.string ⟨(clusterK t.data.toList c.data.toList).toArray⟩, .int .i64 mod] 73)).heap[B]? = _ from blk_alloc HB_2.out (.cells #[.string ⟨(clusterK t.data.toList c.data.toList).toArray⟩, .int .i64 mod] 73))
     clear eA hA
     generalize (x2.alloc (.cells #[.string ⟨(clusterK t.data.toList c.data.toList).toArray⟩, .int .i64 mod] 73)) = x3 at *
     refine hK.out _ _ (hSB6.out _ hB3.out) (fun hHeld => ?_)
     clear hK K
     try simp only [Act.put, List.setIfInBounds_toArray, List.set_cons_zero, List.set_cons_succ]
     refine wTake 9 ?_
     try simp only [Act.put, List.setIfInBounds_toArray, List.set_cons_zero, List.set_cons_succ]
     refine wpAnyH_ready (rs := [10]) (by kernel_rfl) (by simp) (AllReadyH.cons rfl (fun K hK => ?_) AllReadyH.nil)
     go_simp
     obtain ⟨Y, hY⟩ : ∃ X, X = x3.heap.size := ⟨_, rfl⟩
     go_wp2_with fail
     have eY : x3.heap.size = Y := hY.symm
     rw [eY]
     have lY : w6.heap.size ≤ Y := by rw [hY]; exact hB3.out.size
     have hB4 := Lib.hid (show Below w6.heap.size w6 (x3.alloc (.cells #[.slice none 0 0, .slice none 0 0] 34)) from below_alloc hB3.out (.cells #[.slice none 0 0, .slice none 0 0] 34))
     have HY_4 := Lib.hid (show (x3.alloc (.cells #[.slice none 0 0, .slice none 0 0] 34)).heap[Y]? = some (.cells #[.slice none 0 0, .slice none 0 0] 34 (0, 0)) from hY ▸ heap_alloc_new x3 (.cells #[.slice none 0 0, .slice none 0 0] 34))
     have HB_4 := Lib.hid (show (x3.alloc (.cells #[.slice none 0 0, .slice none 0 0] 34)).heap[B]? = _ from blk_alloc HB_3.out (.cells #[.slice none 0 0, .slice none 0 0] 34))
     have HA_4 := Lib.hid (show (x3.alloc (.cells #[.slice none 0 0, .slice none 0 0] 34)).heap[A]? = _ from blk_alloc HA_3.out (.cells #[.slice none 0 0, .slice none 0 0] 34))
     clear eY hY
     generalize (x3.alloc (.cells #[.slice none 0 0, .slice none 0 0] 34)) = x4 at *
     refine hK.out _ _ (hSB6.out _ hB4.out) (fun hHeld => ?_)
     clear hK K
     try simp only [Act.put, List.setIfInBounds_toArray, List.set_cons_zero, List.set_cons_succ]
     refine wpAnyH_cast (l' := #[true, true, true, true, true, true, true, true, true, true, true, false]) (by kernel_rfl) ?_
     exact REST'.out A B Y x4 ⟨lA, lB, lY, hB4.out, HA_4.out, HB_4.out, HY_4.out⟩
    ·
     go_simp
     obtain ⟨Y, hY⟩ : ∃ X, X = x2.heap.size := ⟨_, rfl⟩
     go_wp2_with fail
     have eY : x2.heap.size = Y := hY.symm
     rw [eY]
     have lY : w6.heap.size ≤ Y := by rw [hY]; exact hB2.out.size
     have hB3 := Lib.hid (show Below w6.heap.size w6 (x2.alloc (.cells #[.slice none 0 0, .slice none 0 0] 34)) from below_alloc hB2.out (.cells #[.slice none 0 0, .slice none 0 0] 34))
     have HY_3 := Lib.hid (show (x2.alloc (.cells #[.slice none 0 0, .slice none 0 0] 34)).heap[Y]? = some (.cells #[.slice none 0 0, .slice none 0 0] 34 (0, 0)) from hY ▸ heap_alloc_new x2 (.cells #[.slice none 0 0, .slice none 0 0] 34))
     have HB_3 := Lib.hid (show (x2.alloc (.cells #[.slice none 0 0, .slice none 0 0] 34)).heap[B]? = _ from blk_alloc HB_2.out (.cells #[.slice none 0 0, .slice none 0 0] 34))
     clear eY hY
     generalize (x2.alloc (.cells #[.slice none 0 0, .slice none 0 0] 34)) = x3 at *
     refine hK.out _ _ (hSB6.out _ hB3.out) (fun hHeld => ?_)
     clear hK K
     try simp only [Act.put, List.setIfInBounds_toArray, List.set_cons_zero, List.set_cons_succ]
     refine wpAnyH_ready (rs := [4]) (by kernel_rfl) (by simp) (AllReadyH.cons rfl (fun K hK => ?_) AllReadyH.nil)
     go_simp
     obtain ⟨A, hA⟩ : ∃ X, X = x3.heap.size := ⟨_, rfl⟩
     go_wp2_with fail
     have eA : x3.heap.size = A := hA.symm
     rw [eA]
     have lA : w6.heap.size ≤ A := by rw [hA]; exact hB3.out.size
     have hB4 := Lib.hid (show Below w6.heap.size w6 (x3.alloc (.cells #[.string ⟨(clusterK t.data.toList c.data.toList).toArray⟩, .int .i64 mod] 73)) from below_alloc hB3.out (.cells #[.string ⟨(clusterK t.data.toList c.data.toList).toArray⟩, .int .i64 mod] 73))
     have HA_4 := Lib.hid (show (x3.alloc (.cells #[.string ⟨(clusterK t.data.toList c.data.toList).toArray⟩, .int .i64 mod] 73)).heap[A]? = some (.cells #[.string ⟨(clusterK t.data.toList c.data.toList).toArray⟩, .int .i64 mod] 73 (0, 0)) from hA ▸ heap_alloc_new x3 (.cells #[.string ⟨(clusterK t.data.toList c.data.toList).toArray⟩, .int .i64 mod] 73))
     have HB_4 := Lib.hid (show (x3.alloc (.cells #[.string ⟨(clusterK t.data.toList c.data.toList).toArray⟩, .int .i64 mod] 73)).heap[B]? = _ from blk_alloc HB_3.out (.cells #[.string ⟨(clusterK t.data.toList c.data.toList).toArray⟩, .int .i64 mod] 73))
     have HY_4 := Lib.hid (show (x3.alloc (.cells #[.string ⟨(clusterK t.data.toList c.data.toList).toArray⟩, .int .i64 mod] 73)).heap[Y]? = _ from blk_alloc HY_3.out (.cells #[.string ⟨(clusterK t.data.toList c.data.toList).toArray⟩, .int .i64 mod] 73))
     clear eA hA
     generalize (x3.alloc (.cells #[.string ⟨(clusterK t.data.toList c.data.toList).toArray⟩, .int .i64 mod] 73)) = x4 at *
     refine hK.out _ _ (hSB6.out _ hB4.out) (fun hHeld => ?_)
     clear hK K
     try simp only [Act.put, List.setIfInBounds_toArray, List.set_cons_zero, List.set_cons_succ]
     refine wTake 9 ?_
     try simp only [Act.put, List.setIfInBounds_toArray, List.set_cons_zero, List.set_cons_succ]
     refine wpAnyH_cast (l' := #[true, true, true, true, true, true, true, true, true, true, true, false]) (by kernel_rfl) ?_
     exact REST'.out A B Y x4 ⟨lA, lB, lY, hB4.out, HA_4.out, HB_4.out, HY_4.out⟩
   ·
    go_simp
    obtain ⟨Y, hY⟩ : ∃ X, X = x1.heap.size := ⟨_, rfl⟩
    go_wp2_with fail
    have eY : x1.heap.size = Y := hY.symm
    rw [eY]
    have lY : w6.heap.size ≤ Y := by rw [hY]; exact hB1.out.size
    have hB2 := Lib.hid (show Below w6.heap.size w6 (x1.alloc (.cells #[.slice none 0 0, .slice none 0 0] 34)) from below_alloc hB1.out (.cells #[.slice none 0 0, .slice none 0 0] 34))
    have HY_2 := Lib.hid (show (x1.alloc (.cells #[.slice none 0 0, .slice none 0 0] 34)).heap[Y]? = some (.cells #[.slice none 0 0, .slice none 0 0] 34 (0, 0)) from hY ▸ heap_alloc_new x1 (.cells #[.slice none 0 0, .slice none 0 0] 34))
    clear eY hY
    generalize (x1.alloc (.cells #[.slice none 0 0, .slice none 0 0] 34)) = x2 at *
    refine hK.out _ _ (hSB6.out _ hB2.out) (fun hHeld => ?_)
    clear hK K
    try simp only [Act.put, List.setIfInBounds_toArray, List.set_cons_zero, List.set_cons_succ]
    refine wpAnyH_ready (rs := [4, 8]) (by kernel_rfl) (by simp) (AllReadyH.cons rfl (fun K hK => ?_) (AllReadyH.cons rfl (fun K hK => ?_) AllReadyH.nil))
    ·
     go_simp
     obtain ⟨A, hA⟩ : ∃ X, X = x2.heap.size := ⟨_, rfl⟩
     go_wp2_with fail
     have eA : x2.heap.size = A := hA.symm
     rw [eA]
     have lA : w6.heap.size ≤ A := by rw [hA]; exact hB2.out.size
     have hB3 := Lib.hid (show Below w6.heap.size w6 (x2.alloc (.cells #[.string ⟨(clusterK t.data.toList c.data.toList).toArray⟩, .int .i64 mod] 73)) from below_alloc hB2.out (.cells #[.string ⟨(clusterK t.data.toList c.data.toList).toArray⟩, .int .i64 mod] 73))
     have HA_3 := Lib.hid (show (x2.alloc (.cells #[.string ⟨(clusterK t.data.toList c.data.toList).toArray⟩, .int .i64 mod] 73)).heap[A]? = some (.cells #[.string ⟨(clusterK t.data.toList c.data.toList).toArray⟩, .int .i64 mod] 73 (0, 0)) from hA ▸ heap_alloc_new x2 (.cells #[.string ⟨(clusterK t.data.toList c.data.toList).toArray⟩, .int .i64 mod] 73))
     have HY_3 := Lib.hid (show (x2.alloc (.cells #[.string ⟨(clusterK t.data.toList c.data.toList).toArray⟩, .int .i64 mod] 73)).heap[Y]? = _ from blk_alloc HY_2.out (.cells #[.string ⟨(clusterK t.data.toList c.data.toList).toArray⟩, .int .i64 mod] 73))
     clear eA hA
     generalize (x2.alloc (.cells #[.string ⟨(clusterK t.data.toList c.data.toList).toArray⟩, .int .i64 mod] 73)) = x3 at *
     refine hK.out _ _ (hSB6.out _ hB3.out) (fun hHeld => ?_)
     clear hK K
     try simp only [Act.put, List.setIfInBounds_toArray, List.set_cons_zero, List.set_cons_succ]
     refine wpAnyH_ready (rs := [8]) (by kernel_rfl) (by simp) (AllReadyH.cons rfl (fun K hK => ?_) AllReadyH.nil)
     go_simp
     obtain ⟨B, hB⟩ : ∃ X, X = x3.heap.size := ⟨_, rfl⟩
     go_wp2_with fail
     have eB : x3.heap.size = B := hB.symm
     rw [eB]
     have lB : w6.heap.size ≤ B := by rw [hB]; exact hB3.out.size
     have hB4 := Lib.hid (show Below w6.heap.size w6 (x3.alloc (.cells #[.bool o1, .string o2, .string o3] 85)) from below_alloc hB3.out (.cells #[.bool o1, .string o2, .string o3] 85))
     have HB_4 := Lib.hid (show (x3.alloc (.cells #[.bool o1, .string o2, .string o3] 85)).heap[B]? = some (.cells #[.bool o1, .string o2, .string o3] 85 (0, 0)) from hB ▸ heap_alloc_new x3 (.cells #[.bool o1, .string o2, .string o3] 85))
     have HY_4 := Lib.hid (show (x3.alloc (.cells #[.bool o1, .string o2, .string o3] 85)).heap[Y]? = _ from blk_alloc HY_3.out (.cells #[.bool o1, .string o2, .string o3] 85))
     have HA_4 := Lib.hid (show (x3.alloc (.cells #[.bool o1, .string o2, .string o3] 85)).heap[A]? = _ from blk_alloc HA_3.out (.cells #[.bool o1, .string o2, .string o3] 85))
     clear eB hB
     generalize (x3.alloc (.cells #[.bool o1, .string o2, .string o3] 85)) = x4 at *
     refine hK.out _ _ (hSB6.out _ hB4.out) (fun hHeld => ?_)
     clear hK K
     try simp only [Act.put, List.setIfInBounds_toArray, List.set_cons_zero, List.set_cons_succ]
     refine wTake 9 ?_
     try simp only [Act.put, List.setIfInBounds_toArray, List.set_cons_zero, List.set_cons_succ]
     refine wpAnyH_cast (l' := #[true, true, true, true, true, true, true, true, true, true, true, false]) (by kernel_rfl) ?_
     exact REST'.out A B Y x4 ⟨lA, lB, lY, hB4.out, HA_4.out, HB_4.out, HY_4.out⟩
    ·
     go_simp
     obtain ⟨B, hB⟩ : ∃ X, X = x2.heap.size := ⟨_, rfl⟩
     go_wp2_with fail
     have eB : x2.heap.size = B := hB.symm
     rw [eB]
     have lB : w6.heap.size ≤ B := by rw [hB]; exact hB2.out.size
     have hB3 := Lib.hid (show Below w6.heap.size w6 (x2.alloc (.cells #[.bool o1, .string o2, .string o3] 85)) from below_alloc hB2.out (.cells #[.bool o1, .string o2, .string o3] 85))
     have HB_3 := Lib.hid (show (x2.alloc (.cells #[.bool o1, .string o2, .string o3] 85)).heap[B]? = some (.cells #[.bool o1, .string o2, .string o3] 85 (0, 0)) from hB ▸ heap_alloc_new x2 (.cells #[.bool o1, .string o2, .string o3] 85))
     have HY_3 := Lib.hid (show (x2.alloc (.cells #[.bool o1, .string o2, .string o3] 85)).heap[Y]? = _ from blk_alloc HY_2.out (.cells #[.bool o1, .string o2, .string o3] 85))
     clear eB hB
     generalize (x2.alloc (.cells #[.bool o1, .string o2, .string o3] 85)) = x3 at *
     refine hK.out _ _ (hSB6.out _ hB3.out) (fun hHeld => ?_)
     clear hK K
     try simp only [Act.put, List.setIfInBounds_toArray, List.set_cons_zero, List.set_cons_succ]
     refine wpAnyH_ready (rs := [4]) (by kernel_rfl) (by simp) (AllReadyH.cons rfl (fun K hK => ?_) AllReadyH.nil)
     go_simp
     obtain ⟨A, hA⟩ : ∃ X, X = x3.heap.size := ⟨_, rfl⟩
     go_wp2_with fail
     have eA : x3.heap.size = A := hA.symm
     rw [eA]
     have lA : w6.heap.size ≤ A := by rw [hA]; exact hB3.out.size
     have hB4 := Lib.hid (show Below w6.heap.size w6 (x3.alloc (.cells #[.string ⟨(clusterK t.data.toList c.data.toList).toArray⟩, .int .i64 mod] 73)) from below_alloc hB3.out (.cells #[.string ⟨(clusterK t.data.toList c.data.toList).toArray⟩, .int .i64 mod] 73))
     have HA_4 := Lib.hid (show (x3.alloc (.cells #[.string ⟨(clusterK t.data.toList c.data.toList).toArray⟩, .int .i64 mod] 73)).heap[A]? = some (.cells #[.string ⟨(clusterK t.data.toList c.data.toList).toArray⟩, .int .i64 mod] 73 (0, 0)) from hA ▸ heap_alloc_new x3 (.cells #[.string ⟨(clusterK t.data.toList c.data.toList).toArray⟩, .int .i64 mod] 73))
     have HY_4 := Lib.hid (show (x3.alloc (.cells #[.string ⟨(clusterK t.data.toList c.data.toList).toArray⟩, .int .i64 mod] 73)).heap[Y]? = _ from blk_alloc HY_3.out (.cells #[.string ⟨(clusterK t.data.toList c.data.toList).toArray⟩, .int .i64 mod] 73))
     have HB_4 := Lib.hid (show (x3.alloc (.cells #[.string ⟨(clusterK t.data.toList c.data.toList).toArray⟩, .int .i64 mod] 73)).heap[B]? = _ from blk_alloc HB_3.out (.cells #[.string ⟨(clusterK t.data.toList c.data.toList).toArray⟩, .int .i64 mod] 73))
     clear eA hA
     generalize (x3.alloc (.cells #[.string ⟨(clusterK t.data.toList c.data.toList).toArray⟩, .int .i64 mod] 73)) = x4 at *
     refine hK.out _ _ (hSB6.out _ hB4.out) (fun hHeld => ?_)
     clear hK K
     try simp only [Act.put, List.setIfInBounds_toArray, List.set_cons_zero, List.set_cons_succ]
     refine wTake 9 ?_
     try simp only [Act.put, List.setIfInBounds_toArray, List.set_cons_zero, List.set_cons_succ]
     refine wpAnyH_cast (l' := #[true, true, true, true, true, true, true, true, true, true, true, false]) (by kernel_rfl) ?_
     exact REST'.out A B Y x4 ⟨lA, lB, lY, hB4.out, HA_4.out, HB_4.out, HY_4.out⟩
  ·
   go_simp
   obtain ⟨Y, hY⟩ : ∃ X, X = w6.drew.heap.size := ⟨_, rfl⟩
   go_wp2_with fail
   have eY : w6.heap.size = Y := hY.symm
   rw [eY]
   have lY : w6.heap.size ≤ Y := by rw [hY]; exact hB0.out.size
   have hB1 := Lib.hid (show Below w6.heap.size w6 (w6.alloc (.cells #[.slice none 0 0, .slice none 0 0] 34)).drew from below_alloc hB0.out (.cells #[.slice none 0 0, .slice none 0 0] 34))
   have HY_1 := Lib.hid (show (w6.alloc (.cells #[.slice none 0 0, .slice none 0 0] 34)).drew.heap[Y]? = some (.cells #[.slice none 0 0, .slice none 0 0] 34 (0, 0)) from hY ▸ heap_alloc_new w6.drew (.cells #[.slice none 0 0, .slice none 0 0] 34))
   clear eY hY
   generalize (w6.alloc (.cells #[.slice none 0 0, .slice none 0 0] 34)).drew = x1 at *
   refine hK.out _ _ (hSB6.out _ hB1.out) (fun hHeld => ?_)
   clear hK K
   try simp only [Act.put, List.setIfInBounds_toArray, List.set_cons_zero, List.set_cons_succ]
   refine wpAnyH_ready (rs := [4, 7]) (by kernel_rfl) (by simp) (AllReadyH.cons rfl (fun K hK => ?_) (AllReadyH.cons rfl (fun K hK => ?_) AllReadyH.nil))
   ·
    go_simp
    obtain ⟨A, hA⟩ : ∃ X, X = x1.heap.size := ⟨_, rfl⟩
    go_wp2_with fail
    have eA : x1.heap.size = A := hA.symm
    rw [eA]
    have lA : w6.heap.size ≤ A := by rw [hA]; exact hB1.out.size
    have hB2 := Lib.hid (show Below w6.heap.size w6 (x1.alloc (.cells #[.string ⟨(clusterK t.data.toList c.data.toList).toArray⟩, .int .i64 mod] 73)) from below_alloc hB1.out (.cells #[.string ⟨(clusterK t.data.toList c.data.toList).toArray⟩, .int .i64 mod] 73))
    have HA_2 := Lib.hid (show (x1.alloc (.cells #[.string ⟨(clusterK t.data.toList c.data.toList).toArray⟩, .int .i64 mod] 73)).heap[A]? = some (.cells #[.string ⟨(clusterK t.data.toList c.data.toList).toArray⟩, .int .i64 mod] 73 (0, 0)) from hA ▸ heap_alloc_new x1 (.cells #[.string ⟨(clusterK t.data.toList c.data.toList).toArray⟩, .int .i64 mod] 73))
    have HY_2 := Lib.hid (show (x1.alloc (.cells #[.string ⟨(clusterK t.data.toList c.data.toList).toArray⟩, .int .i64 mod] 73)).heap[Y]? = _ from blk_alloc HY_1.out (.cells #[.string ⟨(clusterK t.data.toList c.data.toList).toArray⟩, .int .i64 mod] 73))
    clear eA hA
    generalize (x1.alloc (.cells #[.string ⟨(clusterK t.data.toList c.data.toList).toArray⟩, .int .i64 mod] 73)) = x2 at *
    refine hK.out _ _ (hSB6.out _ hB2.out) (fun hHeld => ?_)
    clear hK K
    try simp only [Act.put, List.setIfInBounds_toArray, List.set_cons_zero, List.set_cons_succ]
    refine wpAnyH_ready (rs := [7]) (by kernel_rfl) (by simp) (AllReadyH.cons rfl (fun K hK => ?_) AllReadyH.nil)
    go_simp
    go_at_call 169
    with_reducible refine (P1.out _).mono ?_
    rintro e x3 ⟨rfl, hb⟩
    have hB3 := Lib.hid (below_next0 hB2.out hb)
    have HY_3 := Lib.hid ((hb.block _ (blk_lt HY_2.out)).trans HY_2.out)
    have HA_3 := Lib.hid ((hb.block _ (blk_lt HA_2.out)).trans HA_2.out)
    clear hb
    go_wp2_with fail
    refine hK.out _ _ (hSB6.out _ hB3.out) (fun hHeld => ?_)
    clear hK K
    try simp only [Act.put, List.setIfInBounds_toArray, List.set_cons_zero, List.set_cons_succ]
    refine wpAnyH_ready (rs := [8]) (by kernel_rfl) (by simp) (AllReadyH.cons rfl (fun K hK => ?_) AllReadyH.nil)
    go_simp
    obtain ⟨B, hB⟩ : ∃ X, X = x3.heap.size := ⟨_, rfl⟩
    go_wp2_with fail
    have eB : x3.heap.size = B := hB.symm
    rw [eB]
    have lB : w6.heap.size ≤ B := by rw [hB]; exact hB3.out.size
    have hB4 := Lib.hid (show Below w6.heap.size w6 (x3.alloc (.cells #[.bool o1, .string o2, .string o3] 85)) from below_alloc hB3.out (.cells #[.bool o1, .string o2, .string o3] 85))
    have HB_4 := Lib.hid (show (x3.alloc (.cells #[.bool o1, .string o2, .string o3] 85)).heap[B]? = some (.cells #[.bool o1, .string o2, .string o3] 85 (0, 0)) from hB ▸ heap_alloc_new x3 (.cells #[.bool o1, .string o2, .string o3] 85))
    have HY_4 := Lib.hid (show (x3.alloc (.cells #[.bool o1, .string o2, .string o3] 85)).heap[Y]? = _ from blk_alloc HY_3.out (.cells #[.bool o1, .string o2, .string o3] 85))
    have HA_4 := Lib.hid (show (x3.alloc (.cells #[.bool o1, .string o2, .string o3] 85)).heap[A]? = _ from blk_alloc HA_3.out (.cells #[.bool o1, .string o2, .string o3] 85))
    clear eB hB
    generalize (x3.alloc (.cells #[.bool o1, .string o2, .string o3] 85)) = x4 at *
    refine hK.out _ _ (hSB6.out _ hB4.out) (fun hHeld => ?_)
    clear hK K
    try simp only [Act.put, List.setIfInBounds_toArray, List.set_cons_zero, List.set_cons_succ]
    refine wTake 9 ?_
    try simp only [Act.put, List.setIfInBounds_toArray, List.set_cons_zero, List.set_cons_succ]
    refine wpAnyH_cast (l' := #[true, true, true, true, true, true, true, true, true, true, true, false]) (by kernel_rfl) ?_
    exact REST'.out A B Y x4 ⟨lA, lB, lY, hB4.out, HA_4.out, HB_4.out, HY_4.out⟩
   ·
    go_simp
    go_at_call 169
    with_reducible refine (P1.out _).mono ?_
    rintro e x2 ⟨rfl, hb⟩
    have hB2 := Lib.hid (below_next0 hB1.out hb)
    have HY_2 := Lib.hid ((hb.block _ (blk_lt HY_1.out)).trans HY_1.out)
    clear hb
    go_wp2_with fail
    refine hK.out _ _ (hSB6.out _ hB2.out) (fun hHeld => ?_)
    clear hK K
    try simp only [Act.put, List.setIfInBounds_toArray, List.set_cons_zero, List.set_cons_succ]
    refine wpAnyH_ready (rs := [4, 8]) (by kernel_rfl) (by simp) (AllReadyH.cons rfl (fun K hK => ?_) (AllReadyH.cons rfl (fun K hK => ?_) AllReadyH.nil))
    ·
     go_simp
     obtain ⟨A, hA⟩ : ∃ X, X = x2.heap.size := ⟨_, rfl⟩
     go_wp2_with fail
     have eA : x2.heap.size = A := hA.symm
     rw [eA]
     have lA : w6.heap.size ≤ A := by rw [hA]; exact hB2.out.size
     have hB3 := Lib.hid (show Below w6.heap.size w6 (x2.alloc (.cells #[.string ⟨(clusterK t.data.toList c.data.toList).toArray⟩, .int .i64 mod] 73)) from below_alloc hB2.out (.cells #[.string ⟨(clusterK t.data.toList c.data.toList).toArray⟩, .int .i64 mod] 73))
     have HA_3 := Lib.hid (show (x2.alloc (.cells #[.string ⟨(clusterK t.data.toList c.data.toList).toArray⟩, .int .i64 mod] 73)).heap[A]? = some (.cells #[.string ⟨(clusterK t.data.toList c.data.toList).toArray⟩, .int .i64 mod] 73 (0, 0)) from hA ▸ heap_alloc_new x2 (.cells #[.string ⟨(clusterK t.data.toList c.data.toList).toArray⟩, .int .i64 mod] 73))
     have HY_3 := Lib.hid (show (x2.alloc (.cells #[.string ⟨(clusterK t.data.toList c.data.toList).toArray⟩, .int .i64 mod] 73)).heap[Y]? = _ from blk_alloc HY_2.out (.cells #[.string ⟨(clusterK t.data.toList c.data.toList).toArray⟩, .int .i64 mod] 73))
     clear eA hA
     generalize (x2.alloc (.cells #[.string ⟨(clusterK t.data.toList c.data.toList).toArray⟩, .int .i64 mod] 73)) = x3 at *
     refine hK.out _ _ (hSB6.out _ hB3.out) (fun hHeld => ?_)
     clear hK K
     try simp only [Act.put, List.setIfInBounds_toArray, List.set_cons_zero, List.set_cons_succ]
     refine wpAnyH_ready (rs := [8]) (by kernel_rfl) (by simp) (AllReadyH.cons rfl (fun K hK => ?_) AllReadyH.nil)
     go_simp
     obtain ⟨B, hB⟩ : ∃ X, X = x3.heap.size := ⟨_, rfl⟩
     go_wp2_with fail
     have eB : x3.heap.size = B := hB.symm
     rw [eB]
     have lB : w6.heap.size ≤ B := by rw [hB]; exact hB3.out.size
     have hB4 := Lib.hid (show Below w6.heap.size w6 (x3.alloc (.cells #[.bool o1, .string o2, .string o3] 85)) from below_alloc hB3.out (.cells #[.bool o1, .string o2, .string o3] 85))
     have HB_4 := Lib.hid (show (x3.alloc (.cells #[.bool o1, .string o2, .string o3] 85)).heap[B]? = some (.cells #[.bool o1, .string o2, .string o3] 85 (0, 0)) from hB ▸ heap_alloc_new x3 (.cells #[.bool o1, .string o2, .string o3] 85))
     have HY_4 := Lib.hid (show (x3.alloc (.cells #[.bool o1, .string o2, .string o3] 85)).heap[Y]? = _ from blk_alloc HY_3.out (.cells #[.bool o1, .string o2, .string o3] 85))
     have HA_4 := Lib.hid (show (x3.alloc (.cells #[.bool o1, .string o2, .string o3] 85)).heap[A]? = _ from blk_alloc HA_3.out (.cells #[.bool o1, .string o2, .string o3] 85))
     clear eB hB
     generalize (x3.alloc (.cells #[.bool o1, .string o2, .string o3] 85)) = x4 at *
     refine hK.out _ _ (hSB6.out _ hB4.out) (fun hHeld => ?_)
     clear hK K
     try simp only [Act.put, List.setIfInBounds_toArray, List.set_cons_zero, List.set_cons_succ]
     refine wTake 9 ?_
     try simp only [Act.put, List.setIfInBounds_toArray, List.set_cons_zero, List.set_cons_succ]
     refine wpAnyH_cast (l' := #[true, true, true, true, true, true, true, true, true, true, true, false]) (by kernel_rfl) ?_
     exact REST'.out A B Y x4 ⟨lA, lB, lY, hB4.out, HA_4.out, HB_4.out, HY_4.out⟩
    ·
     go_simp
     obtain ⟨B, hB⟩ : ∃ X, X = x2.heap.size := ⟨_, rfl⟩
     go_wp2_with fail
     have eB : x2.heap.size = B := hB.symm
     rw [eB]
     have lB : w6.heap.size ≤ B := by rw [hB]; exact hB2.out.size
     have hB3 := Lib.hid (show Below w6.heap.size w6 (x2.alloc (.cells #[.bool o1, .string o2, .string o3] 85)) from below_alloc hB2.out (.cells #[.bool o1, .string o2, .string o3] 85))
     have HB_3 := Lib.hid (show (x2.alloc (.cells #[.bool o1, .string o2, .string o3] 85)).heap[B]? = some (.cells #[.bool o1, .string o2, .string o3] 85 (0, 0)) from hB ▸ heap_alloc_new x2 (.cells #[.bool o1, .string o2, .string o3] 85))
     have HY_3 := Lib.hid (show (x2.alloc (.cells #[.bool o1, .string o2, .string o3] 85)).heap[Y]? = _ from blk_alloc HY_2.out (.cells #[.bool o1, .string o2, .string o3] 85))
     clear eB hB
     generalize (x2.alloc (.cells #[.bool o1, .string o2, .string o3] 85)) = x3 at *
     refine hK.out _ _ (hSB6.out _ hB3.out) (fun hHeld => ?_)
     clear hK K
     try simp only [Act.put, List.setIfInBounds_toArray, List.set_cons_zero, List.set_cons_succ]
     refine wpAnyH_ready (rs := [4]) (by kernel_rfl) (by simp) (AllReadyH.cons rfl (fun K hK => ?_) AllReadyH.nil)
     go_simp
     obtain ⟨A, hA⟩ : ∃ X, X = x3.heap.size := ⟨_, rfl⟩
     go_wp2_with fail
     have eA : x3.heap.size = A := hA.symm
     rw [eA]
     have lA : w6.heap.size ≤ A := by rw [hA]; exact hB3.out.size
     have hB4 := Lib.hid (show Below w6.heap.size w6 (x3.alloc (.cells #[.string ⟨(clusterK t.data.toList c.data.toList).toArray⟩, .int .i64 mod] 73)) from below_alloc hB3.out (.cells #[.string ⟨(clusterK t.data.toList c.data.toList).toArray⟩, .int .i64 mod] 73))
     have HA_4 := Lib.hid (show (x3.alloc (.cells #[.string ⟨(clusterK t.data.toList c.data.toList).toArray⟩, .int .i64 mod] 73)).heap[A]? = some (.cells #[.string ⟨(clusterK t.data.toList c.data.toList).toArray⟩, .int .i64 mod] 73 (0, 0)) from hA ▸ heap_alloc_new x3 (.cells #[.string ⟨(clusterK t.data.toList c.data.toList).toArray⟩, .int .i64 mod] 73))
     have HY_4 := Lib.hid (show (x3.alloc (.cells #[.string ⟨(clusterK t.data.toList c.data.toList).toArray⟩, .int .i64 mod] 73)).heap[Y]? = _ from blk_alloc HY_3.out (.cells #[.string ⟨(clusterK t.data.toList c.data.toList).toArray⟩, .int .i64 mod] 73))
     have HB_4 := Lib.hid (show (x3.alloc (.cells #[.string ⟨(clusterK t.data.toList c.data.toList).toArray⟩, .int .i64 mod] 73)).heap[B]? = _ from blk_alloc HB_3.out (.cells #[.string ⟨(clusterK t.data.toList c.data.toList).toArray⟩, .int .i64 mod] 73))
     clear eA hA
     generalize (x3.alloc (.cells #[.string ⟨(clusterK t.data.toList c.data.toList).toArray⟩, .int .i64 mod] 73)) = x4 at *
     refine hK.out _ _ (hSB6.out _ hB4.out) (fun hHeld => ?_)
     clear hK K
     try simp only [Act.put, List.setIfInBounds_toArray, List.set_cons_zero, List.set_cons_succ]
     refine wTake 9 ?_
     try simp only [Act.put, List.setIfInBounds_toArray, List.set_cons_zero, List.set_cons_succ]
     refine wpAnyH_cast (l' := #[true, true, true, true, true, true, true, true, true, true, true, false]) (by kernel_rfl) ?_
     exact REST'.out A B Y x4 ⟨lA, lB, lY, hB4.out, HA_4.out, HB_4.out, HY_4.out⟩
 intro A B Y x1 hf
 obtain ⟨lA, lB, lY, hb, HA_1, HB_1, HY_1⟩ := hf
 have hB1 := Lib.hid hb
 have HA_1 := Lib.hid HA_1
 have HB_1 := Lib.hid HB_1
 have HY_1 := Lib.hid HY_1
 clear hb
 have hHeld := hSB6.out _ hB1.out
 try dsimp only
 refine wpAnyH_ready (rs := [11]) (by kernel_rfl) (by simp) (AllReadyH.cons rfl (fun K hK => ?_) AllReadyH.nil)
 have z0 := blk_cell HY_1.out 0
 have y0 := blk_frozen HY_1.out 0
 have z1 := blk_cell HY_1.out 1
 have y1 := blk_frozen HY_1.out 1
 simp only [List.getElem?_toArray, List.getElem?_cons_zero, List.getElem?_cons_succ] at z0 z1
 go_simp
 clear z0 y0 z1 y1
 have hB2 := Lib.hid (show Below w6.heap.size w6 ((x1.setCell ⟨Y, 0, none⟩ (.slice (some ⟨A, 0, none⟩) 1 1)).setCell ⟨Y, 1, none⟩ (.slice (some ⟨B, 0, none⟩) 1 1)) from ((hB1.out.setCell (p := ⟨Y, 0, none⟩) lY (.slice (some ⟨A, 0, none⟩) 1 1)).setCell (p := ⟨Y, 1, none⟩) lY (.slice (some ⟨B, 0, none⟩) 1 1)))
 have HY_2 := Lib.hid (show ((x1.setCell ⟨Y, 0, none⟩ (.slice (some ⟨A, 0, none⟩) 1 1)).setCell ⟨Y, 1, none⟩ (.slice (some ⟨B, 0, none⟩) 1 1)).heap[Y]? = some (.cells #[.slice (some ⟨A, 0, none⟩) 1 1, .slice (some ⟨B, 0, none⟩) 1 1] 34 (0, 0)) from (blk_put (cs := #[.slice (some ⟨A, 0, none⟩) 1 1, .slice none 0 0]) (blk_put (cs := #[.slice none 0 0, .slice none 0 0]) HY_1.out 0 (.slice (some ⟨A, 0, none⟩) 1 1) rfl) 1 (.slice (some ⟨B, 0, none⟩) 1 1) rfl))
 have nAY : A ≠ Y := ne_type HA_1.out HY_1.out (by decide)
 have HA_2 := Lib.hid (show ((x1.setCell ⟨Y, 0, none⟩ (.slice (some ⟨A, 0, none⟩) 1 1)).setCell ⟨Y, 1, none⟩ (.slice (some ⟨B, 0, none⟩) 1 1)).heap[A]? = _ from (blk_far (p := ⟨Y, 1, none⟩) (blk_far (p := ⟨Y, 0, none⟩) HA_1.out nAY (.slice (some ⟨A, 0, none⟩) 1 1)) nAY (.slice (some ⟨B, 0, none⟩) 1 1)))
 have nBY : B ≠ Y := ne_type HB_1.out HY_1.out (by decide)
 have HB_2 := Lib.hid (show ((x1.setCell ⟨Y, 0, none⟩ (.slice (some ⟨A, 0, none⟩) 1 1)).setCell ⟨Y, 1, none⟩ (.slice (some ⟨B, 0, none⟩) 1 1)).heap[B]? = _ from (blk_far (p := ⟨Y, 1, none⟩) (blk_far (p := ⟨Y, 0, none⟩) HB_1.out nBY (.slice (some ⟨A, 0, none⟩) 1 1)) nBY (.slice (some ⟨B, 0, none⟩) 1 1)))
 generalize ((x1.setCell ⟨Y, 0, none⟩ (.slice (some ⟨A, 0, none⟩) 1 1)).setCell ⟨Y, 1, none⟩ (.slice (some ⟨B, 0, none⟩) 1 1)) = x2 at *
 refine hK.out _ _ (hSB6.out _ hB2.out) (fun hHeld => ?_)
 clear hK K
 try simp only [Act.put, List.setIfInBounds_toArray, List.set_cons_zero, List.set_cons_succ]
 refine wpAnyH_done (by kernel_rfl) ?_ _
 refine NoPanic.normal ?_
 clear hHeld
 have hb7 : Below w6.heap.size w6 x2 := hB2.out
 have HA7 := HA_2.out
 have HB'7 := HB_2.out
 have HY7 := HY_2.out
 clear hB2 HA_2 HB_2 HY_2 hSB6
 generalize x2 = w7 at *
 have HK7 := Lib.hid ((hb7.block _ (by have := blk_lt HK6.out; exact this)).trans HK6.out)
 have HS7 := Lib.hid ((hb7.block _ (by have := blk_lt HS6.out; exact this)).trans HS6.out)
 have HT7 := Lib.hid ((hb7.block _ (by have := blk_lt HT6.out; exact this)).trans HT6.out)
 have HU7 := Lib.hid ((hb7.block _ (by have := blk_lt HU6.out; exact this)).trans HU6.out)
 have HX7 := Lib.hid ((hb7.block _ (by have := blk_lt HX6.out; exact this)).trans HX6.out)
 have HB7 := Lib.hid ((HB6.out).trans (hb7.mono (by have := HB6.out.size; omega)))
 clear hb7
 have HA7 := Lib.hid HA7
 have HY7 := Lib.hid HY7
 have HBq7 := Lib.hid HB'7
 clear HB'7
 have gA : w.heap.size ≤ A := by have := HB6.out.size; omega
 have gBq : w.heap.size ≤ B := by have := HB6.out.size; omega
 cases both
 ·
  have hcU0 := blk_cell HU7.out 0
  have hcU1 := blk_cell HU7.out 1
  have hcU2 := blk_cell HU7.out 2
  have hlU := blk_lt HU7.out
  have hcY0 := blk_cell HY7.out 0
  have hcY1 := blk_cell HY7.out 1
  have hlY := blk_lt HY7.out
  have hcT0 := blk_cell HT7.out 0
  have hcT1 := blk_cell HT7.out 1
  have hlT := blk_lt HT7.out
  simp only [List.getElem?_toArray, List.getElem?_cons_zero, List.getElem?_cons_succ] at hcU0 hcU1 hcU2 hcY0 hcY1 hcT0 hcT1
  have hzT0 := blk_frozen HT7.out 0
  have hzT1 := blk_frozen HT7.out 1
  go_wp2
  have hTr : ((w7.setCell ⟨w.heap.size + 1 + 1, 0, none⟩ (.slice (some ⟨A, 0, none⟩) 1 1)).setCell ⟨w.heap.size + 1 + 1, 1, none⟩ (.slice (some ⟨B, 0, none⟩) 1 1)).heap[w.heap.size + 1 + 1]? = some (.cells #[.slice (some ⟨A, 0, none⟩) 1 1, .slice (some ⟨B, 0, none⟩) 1 1] 34 (0, 0)) := blk_put (cs := #[.slice (some ⟨A, 0, none⟩) 1 1, .slice none 0 0]) (blk_put (cs := #[.slice none 0 0, .slice none 0 0]) HT7.out 0 (.slice (some ⟨A, 0, none⟩) 1 1) rfl) 1 (.slice (some ⟨B, 0, none⟩) 1 1) rfl
  have hBr : Below w.heap.size w ((w7.setCell ⟨w.heap.size + 1 + 1, 0, none⟩ (.slice (some ⟨A, 0, none⟩) 1 1)).setCell ⟨w.heap.size + 1 + 1, 1, none⟩ (.slice (some ⟨B, 0, none⟩) 1 1)) := (HB7.out.setCell (p := ⟨w.heap.size + 1 + 1, 0, none⟩) (by simp; omega) (.slice (some ⟨A, 0, none⟩) 1 1)).setCell (p := ⟨w.heap.size + 1 + 1, 1, none⟩) (by simp; omega) (.slice (some ⟨B, 0, none⟩) 1 1)
  have neA : A ≠ w.heap.size + 1 + 1 := by have := blk_lt HT6.out; omega
  have hAr : ((w7.setCell ⟨w.heap.size + 1 + 1, 0, none⟩ (.slice (some ⟨A, 0, none⟩) 1 1)).setCell ⟨w.heap.size + 1 + 1, 1, none⟩ (.slice (some ⟨B, 0, none⟩) 1 1)).heap[A]? = some (.cells #[.string ⟨(clusterK t.data.toList c.data.toList).toArray⟩, .int .i64 mod] 73 (0, 0)) := blk_far (p := ⟨w.heap.size + 1 + 1, 1, none⟩) (blk_far (p := ⟨w.heap.size + 1 + 1, 0, none⟩) HA7.out neA (.slice (some ⟨A, 0, none⟩) 1 1)) neA (.slice (some ⟨B, 0, none⟩) 1 1)
  have gA : w.heap.size ≤ A := by have := HB6.out.size; omega
  have neBq : B ≠ w.heap.size + 1 + 1 := by have := blk_lt HT6.out; omega
  have hBqr : ((w7.setCell ⟨w.heap.size + 1 + 1, 0, none⟩ (.slice (some ⟨A, 0, none⟩) 1 1)).setCell ⟨w.heap.size + 1 + 1, 1, none⟩ (.slice (some ⟨B, 0, none⟩) 1 1)).heap[B]? = some (.cells #[.bool o1, .string o2, .string o3] 85 (0, 0)) := blk_far (p := ⟨w.heap.size + 1 + 1, 1, none⟩) (blk_far (p := ⟨w.heap.size + 1 + 1, 0, none⟩) HBq7.out neBq (.slice (some ⟨A, 0, none⟩) 1 1)) neBq (.slice (some ⟨B, 0, none⟩) 1 1)
  have gBq : w.heap.size ≤ B := by have := HB6.out.size; omega
  have hq := hres.out
  simp only [if_true, if_false, Bool.false_eq_true] at hq
  obtain ⟨rfl, rfl⟩ := hq
  refine bodyPost_ret (results_ct rfl _ _ (w.heap.size + 1 + 1) 34 #[.slice (some ⟨A, 0, none⟩) 1 1, .slice (some ⟨B, 0, none⟩) 1 1] (0, 0) _ rfl hTr Try.underlying34 rfl (by kernel_rfl)) rfl ?_
  exact ⟨_, _, rfl, R_one hAr gA trivial (PEl.k73_mkM _ _ _ ⟨_, _⟩) rfl, R_one hBqr gBq trivial (PEl.k85_mkM _ _ _ ⟨_, _, _⟩) rfl, hBr⟩
 have hcU0 := blk_cell HU7.out 0
 have hcU1 := blk_cell HU7.out 1
 have hcU2 := blk_cell HU7.out 2
 have hlU := blk_lt HU7.out
 have hcX0 := blk_cell HX7.out 0
 have hcX1 := blk_cell HX7.out 1
 have hcX2 := blk_cell HX7.out 2
 have hcX3 := blk_cell HX7.out 3
 have hcX4 := blk_cell HX7.out 4
 have hcX5 := blk_cell HX7.out 5
 have hcX6 := blk_cell HX7.out 6
 have hcX7 := blk_cell HX7.out 7
 have hcX8 := blk_cell HX7.out 8
 have hlX := blk_lt HX7.out
 simp only [List.getElem?_toArray, List.getElem?_cons_zero, List.getElem?_cons_succ] at hcU0 hcU1 hcU2 hcX0 hcX1 hcX2 hcX3 hcX4 hcX5 hcX6 hcX7 hcX8
 go_wp2_with fail
 refine (E1.out _).mono ?_
 rintro e w8 ⟨rfl, hb8⟩
 clear hcU0 hcU1 hcU2 hcX0 hcX1 hcX2 hcX3 hcX4 hcX5 hcX6 hcX7 hcX8 hlU hlX
 have HK8 := Lib.hid ((hb8.block _ (by have := blk_lt HK7.out; exact this)).trans HK7.out)
 have HS8 := Lib.hid ((hb8.block _ (by have := blk_lt HS7.out; exact this)).trans HS7.out)
 have HT8 := Lib.hid ((hb8.block _ (by have := blk_lt HT7.out; exact this)).trans HT7.out)
 have HU8 := Lib.hid ((hb8.block _ (by have := blk_lt HU7.out; exact this)).trans HU7.out)
 have HX8 := Lib.hid ((hb8.block _ (by have := blk_lt HX7.out; exact this)).trans HX7.out)
 have HA8 := Lib.hid ((hb8.block _ (by have := blk_lt HA7.out; exact this)).trans HA7.out)
 have HY8 := Lib.hid ((hb8.block _ (by have := blk_lt HY7.out; exact this)).trans HY7.out)
 have HBq8 := Lib.hid ((hb8.block _ (by have := blk_lt HBq7.out; exact this)).trans HBq7.out)
 have HB8 := Lib.hid ((HB7.out).trans (hb8.mono (by have := HB7.out.size; omega)))
 clear hb8
 have hSB8 := Lib.hid (show ∀ W : World, W.heap[w.heap.size]? = some (.cells #[.string rep, .int .i64 ep, .int .i64 tm, .bool gone, .bool there, .int .i64 mod, .int .i64 live, .int .i64 eps, .int .i64 tmod] 30 (0, 0)) → W.heap[w.heap.size + 1]? = some (.cells #[.string t, .string c, .string r, .int .i64 now, .int .i64 lim] 156 (0, 0)) → (fun W => W.cell? ⟨w.heap.size, 0, none⟩ = some (.string rep) ∧ W.cell? ⟨w.heap.size, 1, none⟩ = some (.int .i64 ep) ∧ W.cell? ⟨w.heap.size, 2, none⟩ = some (.int .i64 tm) ∧ W.cell? ⟨w.heap.size, 3, none⟩ = some (.bool gone) ∧ W.cell? ⟨w.heap.size, 4, none⟩ = some (.bool there) ∧ W.cell? ⟨w.heap.size, 5, none⟩ = some (.int .i64 mod) ∧ W.cell? ⟨w.heap.size, 6, none⟩ = some (.int .i64 live) ∧ W.cell? ⟨w.heap.size, 7, none⟩ = some (.int .i64 eps) ∧ W.cell? ⟨w.heap.size, 8, none⟩ = some (.int .i64 tmod) ∧ W.cell? ⟨w.heap.size + 1, 0, none⟩ = some (.string t) ∧ W.cell? ⟨w.heap.size + 1, 1, none⟩ = some (.string c) ∧ W.cell? ⟨w.heap.size + 1, 2, none⟩ = some (.string r) ∧ W.cell? ⟨w.heap.size + 1, 3, none⟩ = some (.int .i64 now) ∧ W.cell? ⟨w.heap.size + 1, 4, none⟩ = some (.int .i64 lim)) W from fun W hK hS => ⟨(blk_cell hK 0).trans rfl, (blk_cell hK 1).trans rfl, (blk_cell hK 2).trans rfl, (blk_cell hK 3).trans rfl, (blk_cell hK 4).trans rfl, (blk_cell hK 5).trans rfl, (blk_cell hK 6).trans rfl, (blk_cell hK 7).trans rfl, (blk_cell hK 8).trans rfl, (blk_cell hS 0).trans rfl, (blk_cell hS 1).trans rfl, (blk_cell hS 2).trans rfl, (blk_cell hS 3).trans rfl, (blk_cell hS 4).trans rfl⟩)
 go_wp2_with fail
 apply cutACW (fun A' c' W => Below w.heap.size w W ∧ W.heap[w.heap.size]? = some (.cells #[.string rep, .int .i64 ep, .int .i64 tm, .bool gone, .bool there, .int .i64 mod, .int .i64 live, .int .i64 eps, .int .i64 tmod] 30 (0, 0)) ∧ W.heap[w.heap.size + 1]? = some (.cells #[.string t, .string c, .string r, .int .i64 now, .int .i64 lim] 156 (0, 0)) ∧ W.heap[Y]? = some (.cells #[.slice A' 2 c', .slice (some ⟨B, 0, none⟩) 1 1] 34 (0, 0)) ∧ W.heap[B]? = some (.cells #[.bool o1, .string o2, .string o3] 85 (0, 0)) ∧ W.heap[w.heap.size + 2]? = some (.cells #[.slice none 0 0, .slice none 0 0] 34 (0, 0)) ∧ Kd.R PEl.k73 73 W w.heap.size (fun _ => True) (.slice A' 2 c') [⟨⟨(clusterK t.data.toList c.data.toList).toArray⟩, mod⟩, ⟨⟨(tenantK t.data.toList).toArray⟩, tmod⟩])
 ·
  intro REST
  have REST' := Lib.hid REST
  clear REST
  refine wp_region_noPanic ?_
  refine wp_region_held_drew (S := fun W => W.cell? ⟨w.heap.size, 0, none⟩ = some (.string rep) ∧ W.cell? ⟨w.heap.size, 1, none⟩ = some (.int .i64 ep) ∧ W.cell? ⟨w.heap.size, 2, none⟩ = some (.int .i64 tm) ∧ W.cell? ⟨w.heap.size, 3, none⟩ = some (.bool gone) ∧ W.cell? ⟨w.heap.size, 4, none⟩ = some (.bool there) ∧ W.cell? ⟨w.heap.size, 5, none⟩ = some (.int .i64 mod) ∧ W.cell? ⟨w.heap.size, 6, none⟩ = some (.int .i64 live) ∧ W.cell? ⟨w.heap.size, 7, none⟩ = some (.int .i64 eps) ∧ W.cell? ⟨w.heap.size, 8, none⟩ = some (.int .i64 tmod) ∧ W.cell? ⟨w.heap.size + 1, 0, none⟩ = some (.string t) ∧ W.cell? ⟨w.heap.size + 1, 1, none⟩ = some (.string c) ∧ W.cell? ⟨w.heap.size + 1, 2, none⟩ = some (.string r) ∧ W.cell? ⟨w.heap.size + 1, 3, none⟩ = some (.int .i64 now) ∧ W.cell? ⟨w.heap.size + 1, 4, none⟩ = some (.int .i64 lim)) (by kernel_rfl) (hSB8.out _ HK8.out HS8.out) (fun hHeld => ?_)
  have hB0 := Lib.hid (show Below w.heap.size w w8.drew from below_drew HB8.out)
  refine wTake 0 ?_
  refine wTake 2 ?_
  refine wTake 3 ?_
  refine wTake 5 ?_
  refine wTake 6 ?_
  try simp only [Act.put, List.setIfInBounds_toArray, List.set_cons_zero, List.set_cons_succ]
  refine wpAnyH_ready (rs := [1, 4]) (by kernel_rfl) (by simp) (AllReadyH.cons rfl (fun K hK => ?_) (AllReadyH.cons rfl (fun K hK => ?_) AllReadyH.nil))
  ·
   have z0 := blk_cell HY8.out 0
   have z1 := blk_cell HY8.out 1
   simp only [List.getElem?_toArray, List.getElem?_cons_zero, List.getElem?_cons_succ] at z0 z1
   go_simp
   clear z0 z1
   refine hK.out _ _ (hSB8.out _ HK8.out HS8.out) (fun hHeld => ?_)
   clear hK K
   try simp only [Act.put, List.setIfInBounds_toArray, List.set_cons_zero, List.set_cons_succ]
   refine wpAnyH_ready (rs := [4]) (by kernel_rfl) (by simp) (AllReadyH.cons rfl (fun K hK => ?_) AllReadyH.nil)
   go_simp
   with_reducible refine (L3.out _).mono ?_
   rintro e x1 ⟨rfl, hb⟩
   have hB1 := Lib.hid (below_next0 hB0.out hb)
   have HK_1 := Lib.hid ((hb.block _ (blk_lt HK8.out)).trans HK8.out)
   have HS_1 := Lib.hid ((hb.block _ (blk_lt HS8.out)).trans HS8.out)
   have HY_1 := Lib.hid ((hb.block _ (blk_lt HY8.out)).trans HY8.out)
   have HA_1 := Lib.hid ((hb.block _ (blk_lt HA8.out)).trans HA8.out)
   have HBq_1 := Lib.hid ((hb.block _ (blk_lt HBq8.out)).trans HBq8.out)
   have HT_1 := Lib.hid ((hb.block _ (blk_lt HT8.out)).trans HT8.out)
   clear hb
   go_wp2_with fail
   refine hK.out _ _ (hSB8.out _ HK_1.out HS_1.out) (fun hHeld => ?_)
   clear hK K
   try simp only [Act.put, List.setIfInBounds_toArray, List.set_cons_zero, List.set_cons_succ]
   refine wTake 7 ?_
   try simp only [Act.put, List.setIfInBounds_toArray, List.set_cons_zero, List.set_cons_succ]
   refine wpAnyH_ready (rs := [8]) (by kernel_rfl) (by simp) (AllReadyH.cons rfl (fun K hK => ?_) AllReadyH.nil)
   go_simp
   go_wp2_with fail
   have hB2 := Lib.hid (show Below w.heap.size w (x1.alloc (.cells #[.string ⟨(tenantK t.data.toList).toArray⟩, .int .i64 tmod] 73)) from below_alloc hB1.out (.cells #[.string ⟨(tenantK t.data.toList).toArray⟩, .int .i64 tmod] 73))
   have HK_2 := Lib.hid (show (x1.alloc (.cells #[.string ⟨(tenantK t.data.toList).toArray⟩, .int .i64 tmod] 73)).heap[w.heap.size]? = _ from blk_alloc HK_1.out (.cells #[.string ⟨(tenantK t.data.toList).toArray⟩, .int .i64 tmod] 73))
   have HS_2 := Lib.hid (show (x1.alloc (.cells #[.string ⟨(tenantK t.data.toList).toArray⟩, .int .i64 tmod] 73)).heap[w.heap.size + 1]? = _ from blk_alloc HS_1.out (.cells #[.string ⟨(tenantK t.data.toList).toArray⟩, .int .i64 tmod] 73))
   have HY_2 := Lib.hid (show (x1.alloc (.cells #[.string ⟨(tenantK t.data.toList).toArray⟩, .int .i64 tmod] 73)).heap[Y]? = _ from blk_alloc HY_1.out (.cells #[.string ⟨(tenantK t.data.toList).toArray⟩, .int .i64 tmod] 73))
   have HA_2 := Lib.hid (show (x1.alloc (.cells #[.string ⟨(tenantK t.data.toList).toArray⟩, .int .i64 tmod] 73)).heap[A]? = _ from blk_alloc HA_1.out (.cells #[.string ⟨(tenantK t.data.toList).toArray⟩, .int .i64 tmod] 73))
   have HBq_2 := Lib.hid (show (x1.alloc (.cells #[.string ⟨(tenantK t.data.toList).toArray⟩, .int .i64 tmod] 73)).heap[B]? = _ from blk_alloc HBq_1.out (.cells #[.string ⟨(tenantK t.data.toList).toArray⟩, .int .i64 tmod] 73))
   have HT_2 := Lib.hid (show (x1.alloc (.cells #[.string ⟨(tenantK t.data.toList).toArray⟩, .int .i64 tmod] 73)).heap[w.heap.size + 2]? = _ from blk_alloc HT_1.out (.cells #[.string ⟨(tenantK t.data.toList).toArray⟩, .int .i64 tmod] 73))
   refine hK.out _ _ (hSB8.out _ HK_2.out HS_2.out) (fun hHeld => ?_)
   clear hK K
   try simp only [Act.put, List.setIfInBounds_toArray, List.set_cons_zero, List.set_cons_succ]
   refine wpAnyH_ready (rs := [9]) (by kernel_rfl) (by simp) (AllReadyH.cons rfl (fun K hK => ?_) AllReadyH.nil)
   refine Kd.R_append_step PEl.k73 (w0 := w) w.heap.size (by rfl) (.tmp 81) (.tmp 88) 31 73 (.agg #[(.string ⟨#[]⟩), (.int .i64 0)]) 24 rfl Try.underlying31 PEl.info73 rfl (by decide) (by omega) (.slice (some ⟨A, 0, none⟩) 1 1) [⟨⟨(clusterK t.data.toList c.data.toList).toArray⟩, mod⟩] (⟨⟨(tenantK t.data.toList).toArray⟩, tmod⟩) [.string ⟨(tenantK t.data.toList).toArray⟩, .int .i64 tmod] (fun _ => True) (fun _ => False) rfl rfl (PEl.k73_mkM _ _ _ _) (fun _ hk => hk.elim) (fun _ _ => trivial) (R_one HA_1.out gA trivial (PEl.k73_mkM _ _ _ ⟨_, _⟩) rfl) hB1.out hB1.out.size (by simp) ?_
   intro v1 x3 ho hb hg _
   obtain ⟨A1, c1, rfl⟩ := R_two ho
   have hB3 := Lib.hid hb
   have HRn := Lib.hid ho
   have HK_3 := Lib.hid ((hg.block (w.heap.size) (blk_lt HK_1.out) (ne_own (ne_type HK_1.out HA_1.out (by decide)))).trans HK_1.out)
   have HS_3 := Lib.hid ((hg.block (w.heap.size + 1) (blk_lt HS_1.out) (ne_own (ne_type HS_1.out HA_1.out (by decide)))).trans HS_1.out)
   have HY_3 := Lib.hid ((hg.block (Y) (blk_lt HY_1.out) (ne_own (ne_type HY_1.out HA_1.out (by decide)))).trans HY_1.out)
   have HBq_3 := Lib.hid ((hg.block (B) (blk_lt HBq_1.out) (ne_own (ne_type HBq_1.out HA_1.out (by decide)))).trans HBq_1.out)
   have HT_3 := Lib.hid ((hg.block (w.heap.size + 2) (blk_lt HT_1.out) (ne_own (ne_type HT_1.out HA_1.out (by decide)))).trans HT_1.out)
   clear ho hb hg
   go_wp2_with fail
   refine hK.out _ _ (hSB8.out _ HK_3.out HS_3.out) (fun hHeld => ?_)
   clear hK K
   try simp only [Act.put, List.setIfInBounds_toArray, List.set_cons_zero, List.set_cons_succ]
   refine wTake 10 ?_
   try simp only [Act.put, List.setIfInBounds_toArray, List.set_cons_zero, List.set_cons_succ]
   refine wpAnyH_ready (rs := [11]) (by kernel_rfl) (by simp) (AllReadyH.cons rfl (fun K hK => ?_) AllReadyH.nil)
   have z0 := blk_cell HY_3.out 0
   have z1 := blk_cell HY_3.out 1
   have y0 := blk_frozen HY_3.out 0
   have y1 := blk_frozen HY_3.out 1
   simp only [List.getElem?_toArray, List.getElem?_cons_zero, List.getElem?_cons_succ] at z0 z1
   go_simp
   clear z0 y0 z1 y1
   have hB4 := Lib.hid (show Below w.heap.size w (x3.setCell ⟨Y, 0, none⟩ (.slice A1 2 c1)) from hB3.out.setCell (p := ⟨Y, 0, none⟩) (by have := HB6.out.size; simp; omega) (.slice A1 2 c1))
   have HY_4 := Lib.hid (show (x3.setCell ⟨Y, 0, none⟩ (.slice A1 2 c1)).heap[Y]? = some (.cells #[.slice A1 2 c1, .slice (some ⟨B, 0, none⟩) 1 1] 34 (0, 0)) from blk_put (cs := #[.slice (some ⟨A, 0, none⟩) 1 1, .slice (some ⟨B, 0, none⟩) 1 1]) HY_3.out 0 (.slice A1 2 c1) rfl)
   have HK_4 := Lib.hid (show (x3.setCell ⟨Y, 0, none⟩ (.slice A1 2 c1)).heap[w.heap.size]? = _ from blk_far (p := ⟨Y, 0, none⟩) HK_3.out (ne_type HK_3.out HY_3.out (by decide)) (.slice A1 2 c1))
   have HS_4 := Lib.hid (show (x3.setCell ⟨Y, 0, none⟩ (.slice A1 2 c1)).heap[w.heap.size + 1]? = _ from blk_far (p := ⟨Y, 0, none⟩) HS_3.out (ne_type HS_3.out HY_3.out (by decide)) (.slice A1 2 c1))
   have HBq_4 := Lib.hid (show (x3.setCell ⟨Y, 0, none⟩ (.slice A1 2 c1)).heap[B]? = _ from blk_far (p := ⟨Y, 0, none⟩) HBq_3.out (ne_type HBq_3.out HY_3.out (by decide)) (.slice A1 2 c1))
   have HT_4 := Lib.hid (show (x3.setCell ⟨Y, 0, none⟩ (.slice A1 2 c1)).heap[w.heap.size + 2]? = _ from blk_far (p := ⟨Y, 0, none⟩) HT_3.out (show w.heap.size + 2 ≠ Y by have := blk_lt HT6.out; omega) (.slice A1 2 c1))
   have HRn_4 := Lib.hid (Kd.R_set HRn.out HY_3.out (by decide) 0 (.slice A1 2 c1))
   generalize (x3.setCell ⟨Y, 0, none⟩ (.slice A1 2 c1)) = x4 at *
   refine hK.out _ _ (hSB8.out _ HK_4.out HS_4.out) (fun hHeld => ?_)
   clear hK K
   try simp only [Act.put, List.setIfInBounds_toArray, List.set_cons_zero, List.set_cons_succ]
   refine wpAnyH_done (by kernel_rfl) ?_ _
   refine NoPanic.normal ?_
   generalize x1.heap.size = L
   exact REST'.out L A1 c1 x4 ⟨hB4.out, HK_4.out, HS_4.out, HY_4.out, HBq_4.out, HT_4.out, HRn_4.out⟩
  ·
   go_simp
   with_reducible refine (L3.out _).mono ?_
   rintro e x1 ⟨rfl, hb⟩
   have hB1 := Lib.hid (below_next0 hB0.out hb)
   have HK_1 := Lib.hid ((hb.block _ (blk_lt HK8.out)).trans HK8.out)
   have HS_1 := Lib.hid ((hb.block _ (blk_lt HS8.out)).trans HS8.out)
   have HY_1 := Lib.hid ((hb.block _ (blk_lt HY8.out)).trans HY8.out)
   have HA_1 := Lib.hid ((hb.block _ (blk_lt HA8.out)).trans HA8.out)
   have HBq_1 := Lib.hid ((hb.block _ (blk_lt HBq8.out)).trans HBq8.out)
   have HT_1 := Lib.hid ((hb.block _ (blk_lt HT8.out)).trans HT8.out)
   clear hb
   go_wp2_with fail
   refine hK.out _ _ (hSB8.out _ HK_1.out HS_1.out) (fun hHeld => ?_)
   clear hK K
   try simp only [Act.put, List.setIfInBounds_toArray, List.set_cons_zero, List.set_cons_succ]
   refine wTake 7 ?_
   try simp only [Act.put, List.setIfInBounds_toArray, List.set_cons_zero, List.set_cons_succ]
   refine wpAnyH_ready (rs := [1, 8]) (by kernel_rfl) (by simp) (AllReadyH.cons rfl (fun K hK => ?_) (AllReadyH.cons rfl (fun K hK => ?_) AllReadyH.nil))
   ·
    have z0 := blk_cell HY_1.out 0
    have z1 := blk_cell HY_1.out 1
    simp only [List.getElem?_toArray, List.getElem?_cons_zero, List.getElem?_cons_succ] at z0 z1
    go_simp
    clear z0 z1
    refine hK.out _ _ (hSB8.out _ HK_1.out HS_1.out) (fun hHeld => ?_)
    clear hK K
    try simp only [Act.put, List.setIfInBounds_toArray, List.set_cons_zero, List.set_cons_succ]
    refine wpAnyH_ready (rs := [8]) (by kernel_rfl) (by simp) (AllReadyH.cons rfl (fun K hK => ?_) AllReadyH.nil)
    go_simp
    go_wp2_with fail
    have hB2 := Lib.hid (show Below w.heap.size w (x1.alloc (.cells #[.string ⟨(tenantK t.data.toList).toArray⟩, .int .i64 tmod] 73)) from below_alloc hB1.out (.cells #[.string ⟨(tenantK t.data.toList).toArray⟩, .int .i64 tmod] 73))
    have HK_2 := Lib.hid (show (x1.alloc (.cells #[.string ⟨(tenantK t.data.toList).toArray⟩, .int .i64 tmod] 73)).heap[w.heap.size]? = _ from blk_alloc HK_1.out (.cells #[.string ⟨(tenantK t.data.toList).toArray⟩, .int .i64 tmod] 73))
    have HS_2 := Lib.hid (show (x1.alloc (.cells #[.string ⟨(tenantK t.data.toList).toArray⟩, .int .i64 tmod] 73)).heap[w.heap.size + 1]? = _ from blk_alloc HS_1.out (.cells #[.string ⟨(tenantK t.data.toList).toArray⟩, .int .i64 tmod] 73))
    have HY_2 := Lib.hid (show (x1.alloc (.cells #[.string ⟨(tenantK t.data.toList).toArray⟩, .int .i64 tmod] 73)).heap[Y]? = _ from blk_alloc HY_1.out (.cells #[.string ⟨(tenantK t.data.toList).toArray⟩, .int .i64 tmod] 73))
    have HA_2 := Lib.hid (show (x1.alloc (.cells #[.string ⟨(tenantK t.data.toList).toArray⟩, .int .i64 tmod] 73)).heap[A]? = _ from blk_alloc HA_1.out (.cells #[.string ⟨(tenantK t.data.toList).toArray⟩, .int .i64 tmod] 73))
    have HBq_2 := Lib.hid (show (x1.alloc (.cells #[.string ⟨(tenantK t.data.toList).toArray⟩, .int .i64 tmod] 73)).heap[B]? = _ from blk_alloc HBq_1.out (.cells #[.string ⟨(tenantK t.data.toList).toArray⟩, .int .i64 tmod] 73))
    have HT_2 := Lib.hid (show (x1.alloc (.cells #[.string ⟨(tenantK t.data.toList).toArray⟩, .int .i64 tmod] 73)).heap[w.heap.size + 2]? = _ from blk_alloc HT_1.out (.cells #[.string ⟨(tenantK t.data.toList).toArray⟩, .int .i64 tmod] 73))
    refine hK.out _ _ (hSB8.out _ HK_2.out HS_2.out) (fun hHeld => ?_)
    clear hK K
    try simp only [Act.put, List.setIfInBounds_toArray, List.set_cons_zero, List.set_cons_succ]
    refine wpAnyH_ready (rs := [9]) (by kernel_rfl) (by simp) (AllReadyH.cons rfl (fun K hK => ?_) AllReadyH.nil)
    refine Kd.R_append_step PEl.k73 (w0 := w) w.heap.size (by rfl) (.tmp 81) (.tmp 88) 31 73 (.agg #[(.string ⟨#[]⟩), (.int .i64 0)]) 24 rfl Try.underlying31 PEl.info73 rfl (by decide) (by omega) (.slice (some ⟨A, 0, none⟩) 1 1) [⟨⟨(clusterK t.data.toList c.data.toList).toArray⟩, mod⟩] (⟨⟨(tenantK t.data.toList).toArray⟩, tmod⟩) [.string ⟨(tenantK t.data.toList).toArray⟩, .int .i64 tmod] (fun _ => True) (fun _ => False) rfl rfl (PEl.k73_mkM _ _ _ _) (fun _ hk => hk.elim) (fun _ _ => trivial) (R_one HA_1.out gA trivial (PEl.k73_mkM _ _ _ ⟨_, _⟩) rfl) hB1.out hB1.out.size (by simp) ?_
    intro v1 x3 ho hb hg _
    obtain ⟨A1, c1, rfl⟩ := R_two ho
    have hB3 := Lib.hid hb
    have HRn := Lib.hid ho
    have HK_3 := Lib.hid ((hg.block (w.heap.size) (blk_lt HK_1.out) (ne_own (ne_type HK_1.out HA_1.out (by decide)))).trans HK_1.out)
    have HS_3 := Lib.hid ((hg.block (w.heap.size + 1) (blk_lt HS_1.out) (ne_own (ne_type HS_1.out HA_1.out (by decide)))).trans HS_1.out)
    have HY_3 := Lib.hid ((hg.block (Y) (blk_lt HY_1.out) (ne_own (ne_type HY_1.out HA_1.out (by decide)))).trans HY_1.out)
    have HBq_3 := Lib.hid ((hg.block (B) (blk_lt HBq_1.out) (ne_own (ne_type HBq_1.out HA_1.out (by decide)))).trans HBq_1.out)
    have HT_3 := Lib.hid ((hg.block (w.heap.size + 2) (blk_lt HT_1.out) (ne_own (ne_type HT_1.out HA_1.out (by decide)))).trans HT_1.out)
    clear ho hb hg
    go_wp2_with fail
    refine hK.out _ _ (hSB8.out _ HK_3.out HS_3.out) (fun hHeld => ?_)
    clear hK K
    try simp only [Act.put, List.setIfInBounds_toArray, List.set_cons_zero, List.set_cons_succ]
    refine wTake 10 ?_
    try simp only [Act.put, List.setIfInBounds_toArray, List.set_cons_zero, List.set_cons_succ]
    refine wpAnyH_ready (rs := [11]) (by kernel_rfl) (by simp) (AllReadyH.cons rfl (fun K hK => ?_) AllReadyH.nil)
    have z0 := blk_cell HY_3.out 0
    have z1 := blk_cell HY_3.out 1
    have y0 := blk_frozen HY_3.out 0
    have y1 := blk_frozen HY_3.out 1
    simp only [List.getElem?_toArray, List.getElem?_cons_zero, List.getElem?_cons_succ] at z0 z1
    go_simp
    clear z0 y0 z1 y1
    have hB4 := Lib.hid (show Below w.heap.size w (x3.setCell ⟨Y, 0, none⟩ (.slice A1 2 c1)) from hB3.out.setCell (p := ⟨Y, 0, none⟩) (by have := HB6.out.size; simp; omega) (.slice A1 2 c1))
    have HY_4 := Lib.hid (show (x3.setCell ⟨Y, 0, none⟩ (.slice A1 2 c1)).heap[Y]? = some (.cells #[.slice A1 2 c1, .slice (some ⟨B, 0, none⟩) 1 1] 34 (0, 0)) from blk_put (cs := #[.slice (some ⟨A, 0, none⟩) 1 1, .slice (some ⟨B, 0, none⟩) 1 1]) HY_3.out 0 (.slice A1 2 c1) rfl)
    have HK_4 := Lib.hid (show (x3.setCell ⟨Y, 0, none⟩ (.slice A1 2 c1)).heap[w.heap.size]? = _ from blk_far (p := ⟨Y, 0, none⟩) HK_3.out (ne_type HK_3.out HY_3.out (by decide)) (.slice A1 2 c1))
    have HS_4 := Lib.hid (show (x3.setCell ⟨Y, 0, none⟩ (.slice A1 2 c1)).heap[w.heap.size + 1]? = _ from blk_far (p := ⟨Y, 0, none⟩) HS_3.out (ne_type HS_3.out HY_3.out (by decide)) (.slice A1 2 c1))
    have HBq_4 := Lib.hid (show (x3.setCell ⟨Y, 0, none⟩ (.slice A1 2 c1)).heap[B]? = _ from blk_far (p := ⟨Y, 0, none⟩) HBq_3.out (ne_type HBq_3.out HY_3.out (by decide)) (.slice A1 2 c1))
    have HT_4 := Lib.hid (show (x3.setCell ⟨Y, 0, none⟩ (.slice A1 2 c1)).heap[w.heap.size + 2]? = _ from blk_far (p := ⟨Y, 0, none⟩) HT_3.out (show w.heap.size + 2 ≠ Y by have := blk_lt HT6.out; omega) (.slice A1 2 c1))
    have HRn_4 := Lib.hid (Kd.R_set HRn.out HY_3.out (by decide) 0 (.slice A1 2 c1))
    generalize (x3.setCell ⟨Y, 0, none⟩ (.slice A1 2 c1)) = x4 at *
    refine hK.out _ _ (hSB8.out _ HK_4.out HS_4.out) (fun hHeld => ?_)
    clear hK K
    try simp only [Act.put, List.setIfInBounds_toArray, List.set_cons_zero, List.set_cons_succ]
    refine wpAnyH_done (by kernel_rfl) ?_ _
    refine NoPanic.normal ?_
    generalize x1.heap.size = L
    exact REST'.out L A1 c1 x4 ⟨hB4.out, HK_4.out, HS_4.out, HY_4.out, HBq_4.out, HT_4.out, HRn_4.out⟩
   ·
    go_simp
    go_wp2_with fail
    have hB2 := Lib.hid (show Below w.heap.size w (x1.alloc (.cells #[.string ⟨(tenantK t.data.toList).toArray⟩, .int .i64 tmod] 73)) from below_alloc hB1.out (.cells #[.string ⟨(tenantK t.data.toList).toArray⟩, .int .i64 tmod] 73))
    have HK_2 := Lib.hid (show (x1.alloc (.cells #[.string ⟨(tenantK t.data.toList).toArray⟩, .int .i64 tmod] 73)).heap[w.heap.size]? = _ from blk_alloc HK_1.out (.cells #[.string ⟨(tenantK t.data.toList).toArray⟩, .int .i64 tmod] 73))
    have HS_2 := Lib.hid (show (x1.alloc (.cells #[.string ⟨(tenantK t.data.toList).toArray⟩, .int .i64 tmod] 73)).heap[w.heap.size + 1]? = _ from blk_alloc HS_1.out (.cells #[.string ⟨(tenantK t.data.toList).toArray⟩, .int .i64 tmod] 73))
    have HY_2 := Lib.hid (show (x1.alloc (.cells #[.string ⟨(tenantK t.data.toList).toArray⟩, .int .i64 tmod] 73)).heap[Y]? = _ from blk_alloc HY_1.out (.cells #[.string ⟨(tenantK t.data.toList).toArray⟩, .int .i64 tmod] 73))
    have HA_2 := Lib.hid (show (x1.alloc (.cells #[.string ⟨(tenantK t.data.toList).toArray⟩, .int .i64 tmod] 73)).heap[A]? = _ from blk_alloc HA_1.out (.cells #[.string ⟨(tenantK t.data.toList).toArray⟩, .int .i64 tmod] 73))
    have HBq_2 := Lib.hid (show (x1.alloc (.cells #[.string ⟨(tenantK t.data.toList).toArray⟩, .int .i64 tmod] 73)).heap[B]? = _ from blk_alloc HBq_1.out (.cells #[.string ⟨(tenantK t.data.toList).toArray⟩, .int .i64 tmod] 73))
    have HT_2 := Lib.hid (show (x1.alloc (.cells #[.string ⟨(tenantK t.data.toList).toArray⟩, .int .i64 tmod] 73)).heap[w.heap.size + 2]? = _ from blk_alloc HT_1.out (.cells #[.string ⟨(tenantK t.data.toList).toArray⟩, .int .i64 tmod] 73))
    refine hK.out _ _ (hSB8.out _ HK_2.out HS_2.out) (fun hHeld => ?_)
    clear hK K
    try simp only [Act.put, List.setIfInBounds_toArray, List.set_cons_zero, List.set_cons_succ]
    refine wpAnyH_ready (rs := [1]) (by kernel_rfl) (by simp) (AllReadyH.cons rfl (fun K hK => ?_) AllReadyH.nil)
    have z0 := blk_cell HY_2.out 0
    have z1 := blk_cell HY_2.out 1
    simp only [List.getElem?_toArray, List.getElem?_cons_zero, List.getElem?_cons_succ] at z0 z1
    go_simp
    clear z0 z1
    refine hK.out _ _ (hSB8.out _ HK_2.out HS_2.out) (fun hHeld => ?_)
    clear hK K
    try simp only [Act.put, List.setIfInBounds_toArray, List.set_cons_zero, List.set_cons_succ]
    refine wpAnyH_ready (rs := [9]) (by kernel_rfl) (by simp) (AllReadyH.cons rfl (fun K hK => ?_) AllReadyH.nil)
    refine Kd.R_append_step PEl.k73 (w0 := w) w.heap.size (by rfl) (.tmp 81) (.tmp 88) 31 73 (.agg #[(.string ⟨#[]⟩), (.int .i64 0)]) 24 rfl Try.underlying31 PEl.info73 rfl (by decide) (by omega) (.slice (some ⟨A, 0, none⟩) 1 1) [⟨⟨(clusterK t.data.toList c.data.toList).toArray⟩, mod⟩] (⟨⟨(tenantK t.data.toList).toArray⟩, tmod⟩) [.string ⟨(tenantK t.data.toList).toArray⟩, .int .i64 tmod] (fun _ => True) (fun _ => False) rfl rfl (PEl.k73_mkM _ _ _ _) (fun _ hk => hk.elim) (fun _ _ => trivial) (R_one HA_1.out gA trivial (PEl.k73_mkM _ _ _ ⟨_, _⟩) rfl) hB1.out hB1.out.size (by simp) ?_
    intro v1 x3 ho hb hg _
    obtain ⟨A1, c1, rfl⟩ := R_two ho
    have hB3 := Lib.hid hb
    have HRn := Lib.hid ho
    have HK_3 := Lib.hid ((hg.block (w.heap.size) (blk_lt HK_1.out) (ne_own (ne_type HK_1.out HA_1.out (by decide)))).trans HK_1.out)
    have HS_3 := Lib.hid ((hg.block (w.heap.size + 1) (blk_lt HS_1.out) (ne_own (ne_type HS_1.out HA_1.out (by decide)))).trans HS_1.out)
    have HY_3 := Lib.hid ((hg.block (Y) (blk_lt HY_1.out) (ne_own (ne_type HY_1.out HA_1.out (by decide)))).trans HY_1.out)
    have HBq_3 := Lib.hid ((hg.block (B) (blk_lt HBq_1.out) (ne_own (ne_type HBq_1.out HA_1.out (by decide)))).trans HBq_1.out)
    have HT_3 := Lib.hid ((hg.block (w.heap.size + 2) (blk_lt HT_1.out) (ne_own (ne_type HT_1.out HA_1.out (by decide)))).trans HT_1.out)
    clear ho hb hg
    go_wp2_with fail
    refine hK.out _ _ (hSB8.out _ HK_3.out HS_3.out) (fun hHeld => ?_)
    clear hK K
    try simp only [Act.put, List.setIfInBounds_toArray, List.set_cons_zero, List.set_cons_succ]
    refine wTake 10 ?_
    try simp only [Act.put, List.setIfInBounds_toArray, List.set_cons_zero, List.set_cons_succ]
    refine wpAnyH_ready (rs := [11]) (by kernel_rfl) (by simp) (AllReadyH.cons rfl (fun K hK => ?_) AllReadyH.nil)
    have z0 := blk_cell HY_3.out 0
    have z1 := blk_cell HY_3.out 1
    have y0 := blk_frozen HY_3.out 0
    have y1 := blk_frozen HY_3.out 1
    simp only [List.getElem?_toArray, List.getElem?_cons_zero, List.getElem?_cons_succ] at z0 z1
    go_simp
    clear z0 y0 z1 y1
    have hB4 := Lib.hid (show Below w.heap.size w (x3.setCell ⟨Y, 0, none⟩ (.slice A1 2 c1)) from hB3.out.setCell (p := ⟨Y, 0, none⟩) (by have := HB6.out.size; simp; omega) (.slice A1 2 c1))
    have HY_4 := Lib.hid (show (x3.setCell ⟨Y, 0, none⟩ (.slice A1 2 c1)).heap[Y]? = some (.cells #[.slice A1 2 c1, .slice (some ⟨B, 0, none⟩) 1 1] 34 (0, 0)) from blk_put (cs := #[.slice (some ⟨A, 0, none⟩) 1 1, .slice (some ⟨B, 0, none⟩) 1 1]) HY_3.out 0 (.slice A1 2 c1) rfl)
    have HK_4 := Lib.hid (show (x3.setCell ⟨Y, 0, none⟩ (.slice A1 2 c1)).heap[w.heap.size]? = _ from blk_far (p := ⟨Y, 0, none⟩) HK_3.out (ne_type HK_3.out HY_3.out (by decide)) (.slice A1 2 c1))
    have HS_4 := Lib.hid (show (x3.setCell ⟨Y, 0, none⟩ (.slice A1 2 c1)).heap[w.heap.size + 1]? = _ from blk_far (p := ⟨Y, 0, none⟩) HS_3.out (ne_type HS_3.out HY_3.out (by decide)) (.slice A1 2 c1))
    have HBq_4 := Lib.hid (show (x3.setCell ⟨Y, 0, none⟩ (.slice A1 2 c1)).heap[B]? = _ from blk_far (p := ⟨Y, 0, none⟩) HBq_3.out (ne_type HBq_3.out HY_3.out (by decide)) (.slice A1 2 c1))
    have HT_4 := Lib.hid (show (x3.setCell ⟨Y, 0, none⟩ (.slice A1 2 c1)).heap[w.heap.size + 2]? = _ from blk_far (p := ⟨Y, 0, none⟩) HT_3.out (show w.heap.size + 2 ≠ Y by have := blk_lt HT6.out; omega) (.slice A1 2 c1))
    have HRn_4 := Lib.hid (Kd.R_set HRn.out HY_3.out (by decide) 0 (.slice A1 2 c1))
    generalize (x3.setCell ⟨Y, 0, none⟩ (.slice A1 2 c1)) = x4 at *
    refine hK.out _ _ (hSB8.out _ HK_4.out HS_4.out) (fun hHeld => ?_)
    clear hK K
    try simp only [Act.put, List.setIfInBounds_toArray, List.set_cons_zero, List.set_cons_succ]
    refine wpAnyH_done (by kernel_rfl) ?_ _
    refine NoPanic.normal ?_
    generalize x1.heap.size = L
    exact REST'.out L A1 c1 x4 ⟨hB4.out, HK_4.out, HS_4.out, HY_4.out, HBq_4.out, HT_4.out, HRn_4.out⟩
 intro L A0 c0 w9 hf
 obtain ⟨HB9', HK9', HS9', HY9', HBq9', HT9', HR0'⟩ := hf
 have HB9 := Lib.hid HB9'
 have HK9 := Lib.hid HK9'
 have HS9 := Lib.hid HS9'
 have HY9 := Lib.hid HY9'
 have HBq9 := Lib.hid HBq9'
 have HT9 := Lib.hid HT9'
 clear HB9' HK9' HS9' HY9' HBq9' HT9'
 have HR0 := Lib.hid HR0'
 clear HR0'
 clear hSB8
 try dsimp only
 have hSB9 := Lib.hid (show ∀ W : World, W.heap[w.heap.size + 1]? = some (.cells #[.string t, .string c, .string r, .int .i64 now, .int .i64 lim] 156 (0, 0)) → (fun W => W.cell? ⟨w.heap.size + 1, 0, none⟩ = some (.string t) ∧ W.cell? ⟨w.heap.size + 1, 1, none⟩ = some (.string c) ∧ W.cell? ⟨w.heap.size + 1, 2, none⟩ = some (.string r) ∧ W.cell? ⟨w.heap.size + 1, 3, none⟩ = some (.int .i64 now) ∧ W.cell? ⟨w.heap.size + 1, 4, none⟩ = some (.int .i64 lim)) W from fun W hS => ⟨(blk_cell hS 0).trans rfl, (blk_cell hS 1).trans rfl, (blk_cell hS 2).trans rfl, (blk_cell hS 3).trans rfl, (blk_cell hS 4).trans rfl⟩)
 go_wp2_with fail
 apply cutACW (fun A' c' W => Below w.heap.size w W ∧ W.heap[w.heap.size + 1]? = some (.cells #[.string t, .string c, .string r, .int .i64 now, .int .i64 lim] 156 (0, 0)) ∧ W.heap[Y]? = some (.cells #[.slice A0 2 c0, .slice A' 2 c'] 34 (0, 0)) ∧ W.heap[w.heap.size + 2]? = some (.cells #[.slice none 0 0, .slice none 0 0] 34 (0, 0)) ∧ Kd.R PEl.k85 85 W w.heap.size (fun _ => True) (.slice A' 2 c') [⟨o1, o2, o3⟩, ⟨false, ⟨(tenantK t.data.toList).toArray⟩, val⟩] ∧ Kd.R PEl.k73 73 W w.heap.size (fun _ => True) (.slice A0 2 c0) [⟨⟨(clusterK t.data.toList c.data.toList).toArray⟩, mod⟩, ⟨⟨(tenantK t.data.toList).toArray⟩, tmod⟩])
 ·
  intro REST
  have REST' := Lib.hid REST
  clear REST
  refine wp_region_noPanic ?_
  refine wp_region_held_drew (S := fun W => W.cell? ⟨w.heap.size + 1, 0, none⟩ = some (.string t) ∧ W.cell? ⟨w.heap.size + 1, 1, none⟩ = some (.string c) ∧ W.cell? ⟨w.heap.size + 1, 2, none⟩ = some (.string r) ∧ W.cell? ⟨w.heap.size + 1, 3, none⟩ = some (.int .i64 now) ∧ W.cell? ⟨w.heap.size + 1, 4, none⟩ = some (.int .i64 lim)) (by kernel_rfl) (hSB9.out _ HS9.out) (fun hHeld => ?_)
  have hB0 := Lib.hid (show Below w.heap.size w w9.drew from below_drew HB9.out)
  have HR0_0 := Lib.hid (Kd.R_drew HR0.out)
  refine wTake 0 ?_
  refine wTake 2 ?_
  refine wTake 3 ?_
  refine wTake 5 ?_
  try simp only [Act.put, List.setIfInBounds_toArray, List.set_cons_zero, List.set_cons_succ]
  refine wpAnyH_ready (rs := [1, 4]) (by kernel_rfl) (by simp) (AllReadyH.cons rfl (fun K hK => ?_) (AllReadyH.cons rfl (fun K hK => ?_) AllReadyH.nil))
  ·
   have z0 := blk_cell HY9.out 0
   have z1 := blk_cell HY9.out 1
   simp only [List.getElem?_toArray, List.getElem?_cons_zero, List.getElem?_cons_succ] at z0 z1
   go_simp
   clear z0 z1
   refine hK.out _ _ (hSB9.out _ HS9.out) (fun hHeld => ?_)
   clear hK K
   try simp only [Act.put, List.setIfInBounds_toArray, List.set_cons_zero, List.set_cons_succ]
   refine wpAnyH_ready (rs := [4]) (by kernel_rfl) (by simp) (AllReadyH.cons rfl (fun K hK => ?_) AllReadyH.nil)
   go_simp
   with_reducible refine (L3.out _).mono ?_
   rintro e x1 ⟨rfl, hb⟩
   have hB1 := Lib.hid (below_next0 hB0.out hb)
   have HS_1 := Lib.hid ((hb.block _ (blk_lt HS9.out)).trans HS9.out)
   have HY_1 := Lib.hid ((hb.block _ (blk_lt HY9.out)).trans HY9.out)
   have HBq_1 := Lib.hid ((hb.block _ (blk_lt HBq9.out)).trans HBq9.out)
   have HT_1 := Lib.hid ((hb.block _ (blk_lt HT9.out)).trans HT9.out)
   have HR0_1 := Lib.hid (Kd.R_below HR0_0.out hb)
   clear hb
   go_wp2_with fail
   refine hK.out _ _ (hSB9.out _ HS_1.out) (fun hHeld => ?_)
   clear hK K
   try simp only [Act.put, List.setIfInBounds_toArray, List.set_cons_zero, List.set_cons_succ]
   refine wTake 6 ?_
   try simp only [Act.put, List.setIfInBounds_toArray, List.set_cons_zero, List.set_cons_succ]
   refine wpAnyH_ready (rs := [7]) (by kernel_rfl) (by simp) (AllReadyH.cons rfl (fun K hK => ?_) AllReadyH.nil)
   go_simp
   go_wp2_with fail
   have hB2 := Lib.hid (show Below w.heap.size w (x1.alloc (.cells #[.bool false, .string ⟨(tenantK t.data.toList).toArray⟩, .string val] 85)) from below_alloc hB1.out (.cells #[.bool false, .string ⟨(tenantK t.data.toList).toArray⟩, .string val] 85))
   have HS_2 := Lib.hid (show (x1.alloc (.cells #[.bool false, .string ⟨(tenantK t.data.toList).toArray⟩, .string val] 85)).heap[w.heap.size + 1]? = _ from blk_alloc HS_1.out (.cells #[.bool false, .string ⟨(tenantK t.data.toList).toArray⟩, .string val] 85))
   have HY_2 := Lib.hid (show (x1.alloc (.cells #[.bool false, .string ⟨(tenantK t.data.toList).toArray⟩, .string val] 85)).heap[Y]? = _ from blk_alloc HY_1.out (.cells #[.bool false, .string ⟨(tenantK t.data.toList).toArray⟩, .string val] 85))
   have HBq_2 := Lib.hid (show (x1.alloc (.cells #[.bool false, .string ⟨(tenantK t.data.toList).toArray⟩, .string val] 85)).heap[B]? = _ from blk_alloc HBq_1.out (.cells #[.bool false, .string ⟨(tenantK t.data.toList).toArray⟩, .string val] 85))
   have HT_2 := Lib.hid (show (x1.alloc (.cells #[.bool false, .string ⟨(tenantK t.data.toList).toArray⟩, .string val] 85)).heap[w.heap.size + 2]? = _ from blk_alloc HT_1.out (.cells #[.bool false, .string ⟨(tenantK t.data.toList).toArray⟩, .string val] 85))
   refine hK.out _ _ (hSB9.out _ HS_2.out) (fun hHeld => ?_)
   clear hK K
   try simp only [Act.put, List.setIfInBounds_toArray, List.set_cons_zero, List.set_cons_succ]
   refine wpAnyH_ready (rs := [8]) (by kernel_rfl) (by simp) (AllReadyH.cons rfl (fun K hK => ?_) AllReadyH.nil)
   refine Kd.R_append_step PEl.k85 (w0 := w) w.heap.size (by rfl) (.tmp 92) (.tmp 98) 32 85 (.agg #[(.bool false), (.string ⟨#[]⟩), (.string ⟨#[]⟩)]) 40 rfl Try.underlying32 PEl.info85 rfl (by decide) (by omega) (.slice (some ⟨B, 0, none⟩) 1 1) [⟨o1, o2, o3⟩] (⟨false, ⟨(tenantK t.data.toList).toArray⟩, val⟩) [.bool false, .string ⟨(tenantK t.data.toList).toArray⟩, .string val] (fun _ => True) (fun _ => False) rfl rfl (PEl.k85_mkM _ _ _ _) (fun _ hk => hk.elim) (fun _ _ => trivial) (R_one HBq_1.out gBq trivial (PEl.k85_mkM _ _ _ ⟨_, _, _⟩) rfl) hB1.out hB1.out.size (by simp) ?_
   intro v1 x3 ho hb hg _
   obtain ⟨A1, c1, rfl⟩ := R_two ho
   have hB3 := Lib.hid hb
   have HRn := Lib.hid ho
   have HS_3 := Lib.hid ((hg.block (w.heap.size + 1) (blk_lt HS_1.out) (ne_own (ne_type HS_1.out HBq_1.out (by decide)))).trans HS_1.out)
   have HY_3 := Lib.hid ((hg.block (Y) (blk_lt HY_1.out) (ne_own (ne_type HY_1.out HBq_1.out (by decide)))).trans HY_1.out)
   have HT_3 := Lib.hid ((hg.block (w.heap.size + 2) (blk_lt HT_1.out) (ne_own (ne_type HT_1.out HBq_1.out (by decide)))).trans HT_1.out)
   have HR0_3 := Lib.hid (Kd.R_mono (Kd.R_grown (Kd.R_types HR0_1.out HBq_1.out (by decide)) hg (fun k hk e => hk.2 (by simpa [Value.ownBlock] using e))) (fun _ _ => trivial))
   clear ho hb hg
   go_wp2_with fail
   refine hK.out _ _ (hSB9.out _ HS_3.out) (fun hHeld => ?_)
   clear hK K
   try simp only [Act.put, List.setIfInBounds_toArray, List.set_cons_zero, List.set_cons_succ]
   refine wTake 9 ?_
   try simp only [Act.put, List.setIfInBounds_toArray, List.set_cons_zero, List.set_cons_succ]
   refine wpAnyH_ready (rs := [10]) (by kernel_rfl) (by simp) (AllReadyH.cons rfl (fun K hK => ?_) AllReadyH.nil)
   have z0 := blk_cell HY_3.out 0
   have z1 := blk_cell HY_3.out 1
   have y0 := blk_frozen HY_3.out 0
   have y1 := blk_frozen HY_3.out 1
   simp only [List.getElem?_toArray, List.getElem?_cons_zero, List.getElem?_cons_succ] at z0 z1
   go_simp
   clear z0 y0 z1 y1
   have hB4 := Lib.hid (show Below w.heap.size w (x3.setCell ⟨Y, 1, none⟩ (.slice A1 2 c1)) from hB3.out.setCell (p := ⟨Y, 1, none⟩) (by have := HB6.out.size; simp; omega) (.slice A1 2 c1))
   have HY_4 := Lib.hid (show (x3.setCell ⟨Y, 1, none⟩ (.slice A1 2 c1)).heap[Y]? = some (.cells #[.slice A0 2 c0, .slice A1 2 c1] 34 (0, 0)) from blk_put (cs := #[.slice A0 2 c0, .slice (some ⟨B, 0, none⟩) 1 1]) HY_3.out 1 (.slice A1 2 c1) rfl)
   have HS_4 := Lib.hid (show (x3.setCell ⟨Y, 1, none⟩ (.slice A1 2 c1)).heap[w.heap.size + 1]? = _ from blk_far (p := ⟨Y, 1, none⟩) HS_3.out (ne_type HS_3.out HY_3.out (by decide)) (.slice A1 2 c1))
   have HT_4 := Lib.hid (show (x3.setCell ⟨Y, 1, none⟩ (.slice A1 2 c1)).heap[w.heap.size + 2]? = _ from blk_far (p := ⟨Y, 1, none⟩) HT_3.out (show w.heap.size + 2 ≠ Y by have := blk_lt HT6.out; omega) (.slice A1 2 c1))
   have HR0_4 := Lib.hid (Kd.R_set HR0_3.out HY_3.out (by decide) 1 (.slice A1 2 c1))
   have HRn_4 := Lib.hid (Kd.R_set HRn.out HY_3.out (by decide) 1 (.slice A1 2 c1))
   generalize (x3.setCell ⟨Y, 1, none⟩ (.slice A1 2 c1)) = x4 at *
   refine hK.out _ _ (hSB9.out _ HS_4.out) (fun hHeld => ?_)
   clear hK K
   try simp only [Act.put, List.setIfInBounds_toArray, List.set_cons_zero, List.set_cons_succ]
   refine wpAnyH_done (by kernel_rfl) ?_ _
   refine NoPanic.normal ?_
   generalize x1.heap.size = L
   exact REST'.out L A1 c1 x4 ⟨hB4.out, HS_4.out, HY_4.out, HT_4.out, HRn_4.out, HR0_4.out⟩
  ·
   go_simp
   with_reducible refine (L3.out _).mono ?_
   rintro e x1 ⟨rfl, hb⟩
   have hB1 := Lib.hid (below_next0 hB0.out hb)
   have HS_1 := Lib.hid ((hb.block _ (blk_lt HS9.out)).trans HS9.out)
   have HY_1 := Lib.hid ((hb.block _ (blk_lt HY9.out)).trans HY9.out)
   have HBq_1 := Lib.hid ((hb.block _ (blk_lt HBq9.out)).trans HBq9.out)
   have HT_1 := Lib.hid ((hb.block _ (blk_lt HT9.out)).trans HT9.out)
   have HR0_1 := Lib.hid (Kd.R_below HR0_0.out hb)
   clear hb
   go_wp2_with fail
   refine hK.out _ _ (hSB9.out _ HS_1.out) (fun hHeld => ?_)
   clear hK K
   try simp only [Act.put, List.setIfInBounds_toArray, List.set_cons_zero, List.set_cons_succ]
   refine wTake 6 ?_
   try simp only [Act.put, List.setIfInBounds_toArray, List.set_cons_zero, List.set_cons_succ]
   refine wpAnyH_ready (rs := [1, 7]) (by kernel_rfl) (by simp) (AllReadyH.cons rfl (fun K hK => ?_) (AllReadyH.cons rfl (fun K hK => ?_) AllReadyH.nil))
   ·
    have z0 := blk_cell HY_1.out 0
    have z1 := blk_cell HY_1.out 1
    simp only [List.getElem?_toArray, List.getElem?_cons_zero, List.getElem?_cons_succ] at z0 z1
    go_simp
    clear z0 z1
    refine hK.out _ _ (hSB9.out _ HS_1.out) (fun hHeld => ?_)
    clear hK K
    try simp only [Act.put, List.setIfInBounds_toArray, List.set_cons_zero, List.set_cons_succ]
    refine wpAnyH_ready (rs := [7]) (by kernel_rfl) (by simp) (AllReadyH.cons rfl (fun K hK => ?_) AllReadyH.nil)
    go_simp
    go_wp2_with fail
    have hB2 := Lib.hid (show Below w.heap.size w (x1.alloc (.cells #[.bool false, .string ⟨(tenantK t.data.toList).toArray⟩, .string val] 85)) from below_alloc hB1.out (.cells #[.bool false, .string ⟨(tenantK t.data.toList).toArray⟩, .string val] 85))
    have HS_2 := Lib.hid (show (x1.alloc (.cells #[.bool false, .string ⟨(tenantK t.data.toList).toArray⟩, .string val] 85)).heap[w.heap.size + 1]? = _ from blk_alloc HS_1.out (.cells #[.bool false, .string ⟨(tenantK t.data.toList).toArray⟩, .string val] 85))
    have HY_2 := Lib.hid (show (x1.alloc (.cells #[.bool false, .string ⟨(tenantK t.data.toList).toArray⟩, .string val] 85)).heap[Y]? = _ from blk_alloc HY_1.out (.cells #[.bool false, .string ⟨(tenantK t.data.toList).toArray⟩, .string val] 85))
    have HBq_2 := Lib.hid (show (x1.alloc (.cells #[.bool false, .string ⟨(tenantK t.data.toList).toArray⟩, .string val] 85)).heap[B]? = _ from blk_alloc HBq_1.out (.cells #[.bool false, .string ⟨(tenantK t.data.toList).toArray⟩, .string val] 85))
    have HT_2 := Lib.hid (show (x1.alloc (.cells #[.bool false, .string ⟨(tenantK t.data.toList).toArray⟩, .string val] 85)).heap[w.heap.size + 2]? = _ from blk_alloc HT_1.out (.cells #[.bool false, .string ⟨(tenantK t.data.toList).toArray⟩, .string val] 85))
    refine hK.out _ _ (hSB9.out _ HS_2.out) (fun hHeld => ?_)
    clear hK K
    try simp only [Act.put, List.setIfInBounds_toArray, List.set_cons_zero, List.set_cons_succ]
    refine wpAnyH_ready (rs := [8]) (by kernel_rfl) (by simp) (AllReadyH.cons rfl (fun K hK => ?_) AllReadyH.nil)
    refine Kd.R_append_step PEl.k85 (w0 := w) w.heap.size (by rfl) (.tmp 92) (.tmp 98) 32 85 (.agg #[(.bool false), (.string ⟨#[]⟩), (.string ⟨#[]⟩)]) 40 rfl Try.underlying32 PEl.info85 rfl (by decide) (by omega) (.slice (some ⟨B, 0, none⟩) 1 1) [⟨o1, o2, o3⟩] (⟨false, ⟨(tenantK t.data.toList).toArray⟩, val⟩) [.bool false, .string ⟨(tenantK t.data.toList).toArray⟩, .string val] (fun _ => True) (fun _ => False) rfl rfl (PEl.k85_mkM _ _ _ _) (fun _ hk => hk.elim) (fun _ _ => trivial) (R_one HBq_1.out gBq trivial (PEl.k85_mkM _ _ _ ⟨_, _, _⟩) rfl) hB1.out hB1.out.size (by simp) ?_
    intro v1 x3 ho hb hg _
    obtain ⟨A1, c1, rfl⟩ := R_two ho
    have hB3 := Lib.hid hb
    have HRn := Lib.hid ho
    have HS_3 := Lib.hid ((hg.block (w.heap.size + 1) (blk_lt HS_1.out) (ne_own (ne_type HS_1.out HBq_1.out (by decide)))).trans HS_1.out)
    have HY_3 := Lib.hid ((hg.block (Y) (blk_lt HY_1.out) (ne_own (ne_type HY_1.out HBq_1.out (by decide)))).trans HY_1.out)
    have HT_3 := Lib.hid ((hg.block (w.heap.size + 2) (blk_lt HT_1.out) (ne_own (ne_type HT_1.out HBq_1.out (by decide)))).trans HT_1.out)
    have HR0_3 := Lib.hid (Kd.R_mono (Kd.R_grown (Kd.R_types HR0_1.out HBq_1.out (by decide)) hg (fun k hk e => hk.2 (by simpa [Value.ownBlock] using e))) (fun _ _ => trivial))
    clear ho hb hg
    go_wp2_with fail
    refine hK.out _ _ (hSB9.out _ HS_3.out) (fun hHeld => ?_)
    clear hK K
    try simp only [Act.put, List.setIfInBounds_toArray, List.set_cons_zero, List.set_cons_succ]
    refine wTake 9 ?_
    try simp only [Act.put, List.setIfInBounds_toArray, List.set_cons_zero, List.set_cons_succ]
    refine wpAnyH_ready (rs := [10]) (by kernel_rfl) (by simp) (AllReadyH.cons rfl (fun K hK => ?_) AllReadyH.nil)
    have z0 := blk_cell HY_3.out 0
    have z1 := blk_cell HY_3.out 1
    have y0 := blk_frozen HY_3.out 0
    have y1 := blk_frozen HY_3.out 1
    simp only [List.getElem?_toArray, List.getElem?_cons_zero, List.getElem?_cons_succ] at z0 z1
    go_simp
    clear z0 y0 z1 y1
    have hB4 := Lib.hid (show Below w.heap.size w (x3.setCell ⟨Y, 1, none⟩ (.slice A1 2 c1)) from hB3.out.setCell (p := ⟨Y, 1, none⟩) (by have := HB6.out.size; simp; omega) (.slice A1 2 c1))
    have HY_4 := Lib.hid (show (x3.setCell ⟨Y, 1, none⟩ (.slice A1 2 c1)).heap[Y]? = some (.cells #[.slice A0 2 c0, .slice A1 2 c1] 34 (0, 0)) from blk_put (cs := #[.slice A0 2 c0, .slice (some ⟨B, 0, none⟩) 1 1]) HY_3.out 1 (.slice A1 2 c1) rfl)
    have HS_4 := Lib.hid (show (x3.setCell ⟨Y, 1, none⟩ (.slice A1 2 c1)).heap[w.heap.size + 1]? = _ from blk_far (p := ⟨Y, 1, none⟩) HS_3.out (ne_type HS_3.out HY_3.out (by decide)) (.slice A1 2 c1))
    have HT_4 := Lib.hid (show (x3.setCell ⟨Y, 1, none⟩ (.slice A1 2 c1)).heap[w.heap.size + 2]? = _ from blk_far (p := ⟨Y, 1, none⟩) HT_3.out (show w.heap.size + 2 ≠ Y by have := blk_lt HT6.out; omega) (.slice A1 2 c1))
    have HR0_4 := Lib.hid (Kd.R_set HR0_3.out HY_3.out (by decide) 1 (.slice A1 2 c1))
    have HRn_4 := Lib.hid (Kd.R_set HRn.out HY_3.out (by decide) 1 (.slice A1 2 c1))
    generalize (x3.setCell ⟨Y, 1, none⟩ (.slice A1 2 c1)) = x4 at *
    refine hK.out _ _ (hSB9.out _ HS_4.out) (fun hHeld => ?_)
    clear hK K
    try simp only [Act.put, List.setIfInBounds_toArray, List.set_cons_zero, List.set_cons_succ]
    refine wpAnyH_done (by kernel_rfl) ?_ _
    refine NoPanic.normal ?_
    generalize x1.heap.size = L
    exact REST'.out L A1 c1 x4 ⟨hB4.out, HS_4.out, HY_4.out, HT_4.out, HRn_4.out, HR0_4.out⟩
   ·
    go_simp
    go_wp2_with fail
    have hB2 := Lib.hid (show Below w.heap.size w (x1.alloc (.cells #[.bool false, .string ⟨(tenantK t.data.toList).toArray⟩, .string val] 85)) from below_alloc hB1.out (.cells #[.bool false, .string ⟨(tenantK t.data.toList).toArray⟩, .string val] 85))
    have HS_2 := Lib.hid (show (x1.alloc (.cells #[.bool false, .string ⟨(tenantK t.data.toList).toArray⟩, .string val] 85)).heap[w.heap.size + 1]? = _ from blk_alloc HS_1.out (.cells #[.bool false, .string ⟨(tenantK t.data.toList).toArray⟩, .string val] 85))
    have HY_2 := Lib.hid (show (x1.alloc (.cells #[.bool false, .string ⟨(tenantK t.data.toList).toArray⟩, .string val] 85)).heap[Y]? = _ from blk_alloc HY_1.out (.cells #[.bool false, .string ⟨(tenantK t.data.toList).toArray⟩, .string val] 85))
    have HBq_2 := Lib.hid (show (x1.alloc (.cells #[.bool false, .string ⟨(tenantK t.data.toList).toArray⟩, .string val] 85)).heap[B]? = _ from blk_alloc HBq_1.out (.cells #[.bool false, .string ⟨(tenantK t.data.toList).toArray⟩, .string val] 85))
    have HT_2 := Lib.hid (show (x1.alloc (.cells #[.bool false, .string ⟨(tenantK t.data.toList).toArray⟩, .string val] 85)).heap[w.heap.size + 2]? = _ from blk_alloc HT_1.out (.cells #[.bool false, .string ⟨(tenantK t.data.toList).toArray⟩, .string val] 85))
    refine hK.out _ _ (hSB9.out _ HS_2.out) (fun hHeld => ?_)
    clear hK K
    try simp only [Act.put, List.setIfInBounds_toArray, List.set_cons_zero, List.set_cons_succ]
    refine wpAnyH_ready (rs := [1]) (by kernel_rfl) (by simp) (AllReadyH.cons rfl (fun K hK => ?_) AllReadyH.nil)
    have z0 := blk_cell HY_2.out 0
    have z1 := blk_cell HY_2.out 1
    simp only [List.getElem?_toArray, List.getElem?_cons_zero, List.getElem?_cons_succ] at z0 z1
    go_simp
    clear z0 z1
    refine hK.out _ _ (hSB9.out _ HS_2.out) (fun hHeld => ?_)
    clear hK K
    try simp only [Act.put, List.setIfInBounds_toArray, List.set_cons_zero, List.set_cons_succ]
    refine wpAnyH_ready (rs := [8]) (by kernel_rfl) (by simp) (AllReadyH.cons rfl (fun K hK => ?_) AllReadyH.nil)
    refine Kd.R_append_step PEl.k85 (w0 := w) w.heap.size (by rfl) (.tmp 92) (.tmp 98) 32 85 (.agg #[(.bool false), (.string ⟨#[]⟩), (.string ⟨#[]⟩)]) 40 rfl Try.underlying32 PEl.info85 rfl (by decide) (by omega) (.slice (some ⟨B, 0, none⟩) 1 1) [⟨o1, o2, o3⟩] (⟨false, ⟨(tenantK t.data.toList).toArray⟩, val⟩) [.bool false, .string ⟨(tenantK t.data.toList).toArray⟩, .string val] (fun _ => True) (fun _ => False) rfl rfl (PEl.k85_mkM _ _ _ _) (fun _ hk => hk.elim) (fun _ _ => trivial) (R_one HBq_1.out gBq trivial (PEl.k85_mkM _ _ _ ⟨_, _, _⟩) rfl) hB1.out hB1.out.size (by simp) ?_
    intro v1 x3 ho hb hg _
    obtain ⟨A1, c1, rfl⟩ := R_two ho
    have hB3 := Lib.hid hb
    have HRn := Lib.hid ho
    have HS_3 := Lib.hid ((hg.block (w.heap.size + 1) (blk_lt HS_1.out) (ne_own (ne_type HS_1.out HBq_1.out (by decide)))).trans HS_1.out)
    have HY_3 := Lib.hid ((hg.block (Y) (blk_lt HY_1.out) (ne_own (ne_type HY_1.out HBq_1.out (by decide)))).trans HY_1.out)
    have HT_3 := Lib.hid ((hg.block (w.heap.size + 2) (blk_lt HT_1.out) (ne_own (ne_type HT_1.out HBq_1.out (by decide)))).trans HT_1.out)
    have HR0_3 := Lib.hid (Kd.R_mono (Kd.R_grown (Kd.R_types HR0_1.out HBq_1.out (by decide)) hg (fun k hk e => hk.2 (by simpa [Value.ownBlock] using e))) (fun _ _ => trivial))
    clear ho hb hg
    go_wp2_with fail
    refine hK.out _ _ (hSB9.out _ HS_3.out) (fun hHeld => ?_)
    clear hK K
    try simp only [Act.put, List.setIfInBounds_toArray, List.set_cons_zero, List.set_cons_succ]
    refine wTake 9 ?_
    try simp only [Act.put, List.setIfInBounds_toArray, List.set_cons_zero, List.set_cons_succ]
    refine wpAnyH_ready (rs := [10]) (by kernel_rfl) (by simp) (AllReadyH.cons rfl (fun K hK => ?_) AllReadyH.nil)
    have z0 := blk_cell HY_3.out 0
    have z1 := blk_cell HY_3.out 1
    have y0 := blk_frozen HY_3.out 0
    have y1 := blk_frozen HY_3.out 1
    simp only [List.getElem?_toArray, List.getElem?_cons_zero, List.getElem?_cons_succ] at z0 z1
    go_simp
    clear z0 y0 z1 y1
    have hB4 := Lib.hid (show Below w.heap.size w (x3.setCell ⟨Y, 1, none⟩ (.slice A1 2 c1)) from hB3.out.setCell (p := ⟨Y, 1, none⟩) (by have := HB6.out.size; simp; omega) (.slice A1 2 c1))
    have HY_4 := Lib.hid (show (x3.setCell ⟨Y, 1, none⟩ (.slice A1 2 c1)).heap[Y]? = some (.cells #[.slice A0 2 c0, .slice A1 2 c1] 34 (0, 0)) from blk_put (cs := #[.slice A0 2 c0, .slice (some ⟨B, 0, none⟩) 1 1]) HY_3.out 1 (.slice A1 2 c1) rfl)
    have HS_4 := Lib.hid (show (x3.setCell ⟨Y, 1, none⟩ (.slice A1 2 c1)).heap[w.heap.size + 1]? = _ from blk_far (p := ⟨Y, 1, none⟩) HS_3.out (ne_type HS_3.out HY_3.out (by decide)) (.slice A1 2 c1))
    have HT_4 := Lib.hid (show (x3.setCell ⟨Y, 1, none⟩ (.slice A1 2 c1)).heap[w.heap.size + 2]? = _ from blk_far (p := ⟨Y, 1, none⟩) HT_3.out (show w.heap.size + 2 ≠ Y by have := blk_lt HT6.out; omega) (.slice A1 2 c1))
    have HR0_4 := Lib.hid (Kd.R_set HR0_3.out HY_3.out (by decide) 1 (.slice A1 2 c1))
    have HRn_4 := Lib.hid (Kd.R_set HRn.out HY_3.out (by decide) 1 (.slice A1 2 c1))
    generalize (x3.setCell ⟨Y, 1, none⟩ (.slice A1 2 c1)) = x4 at *
    refine hK.out _ _ (hSB9.out _ HS_4.out) (fun hHeld => ?_)
    clear hK K
    try simp only [Act.put, List.setIfInBounds_toArray, List.set_cons_zero, List.set_cons_succ]
    refine wpAnyH_done (by kernel_rfl) ?_ _
    refine NoPanic.normal ?_
    generalize x1.heap.size = L
    exact REST'.out L A1 c1 x4 ⟨hB4.out, HS_4.out, HY_4.out, HT_4.out, HRn_4.out, HR0_4.out⟩
 intro L A1 c1 w10 hf
 obtain ⟨HB10', HS10', HY10', HT10', HR1', HR0'⟩ := hf
 have HB10 := Lib.hid HB10'
 have HS10 := Lib.hid HS10'
 have HY10 := Lib.hid HY10'
 have HT10 := Lib.hid HT10'
 clear HB10' HS10' HY10' HT10'
 clear HR0
 have HR1 := Lib.hid HR1'
 clear HR1'
 have HR0 := Lib.hid HR0'
 clear HR0'
 clear hSB9
 try dsimp only
 have hcY0 := blk_cell HY10.out 0
 have hcY1 := blk_cell HY10.out 1
 have hlY := blk_lt HY10.out
 have hcT0 := blk_cell HT10.out 0
 have hcT1 := blk_cell HT10.out 1
 have hlT := blk_lt HT10.out
 simp only [List.getElem?_toArray, List.getElem?_cons_zero, List.getElem?_cons_succ] at hcY0 hcY1 hcT0 hcT1
 have hzT0 := blk_frozen HT10.out 0
 have hzT1 := blk_frozen HT10.out 1
 go_wp2
 have hTr : ((w10.setCell ⟨w.heap.size + 1 + 1, 0, none⟩ (.slice A0 2 c0)).setCell ⟨w.heap.size + 1 + 1, 1, none⟩ (.slice A1 2 c1)).heap[w.heap.size + 1 + 1]? = some (.cells #[.slice A0 2 c0, .slice A1 2 c1] 34 (0, 0)) := blk_put (cs := #[.slice A0 2 c0, .slice none 0 0]) (blk_put (cs := #[.slice none 0 0, .slice none 0 0]) HT10.out 0 (.slice A0 2 c0) rfl) 1 (.slice A1 2 c1) rfl
 have hBr : Below w.heap.size w ((w10.setCell ⟨w.heap.size + 1 + 1, 0, none⟩ (.slice A0 2 c0)).setCell ⟨w.heap.size + 1 + 1, 1, none⟩ (.slice A1 2 c1)) := (HB10.out.setCell (p := ⟨w.heap.size + 1 + 1, 0, none⟩) (by simp; omega) (.slice A0 2 c0)).setCell (p := ⟨w.heap.size + 1 + 1, 1, none⟩) (by simp; omega) (.slice A1 2 c1)
 have hq0 : ∀ q, q ∈ 73 :: PEl.k73.E → q ≠ 34 := by decide
 have hq1 : ∀ q, q ∈ 85 :: PEl.k85.E → q ≠ 34 := by decide
 have hq := hres.out
 simp only [if_true, if_false, Bool.false_eq_true] at hq
 obtain ⟨rfl, rfl⟩ := hq
 refine bodyPost_ret (results_ct rfl _ _ (w.heap.size + 1 + 1) 34 #[.slice A0 2 c0, .slice A1 2 c1] (0, 0) _ rfl hTr Try.underlying34 rfl (by kernel_rfl)) rfl ?_
 exact ⟨_, _, rfl, Kd.R_set (Kd.R_set HR0.out HT10.out hq0 0 _) (blk_put (cs := #[.slice none 0 0, .slice none 0 0]) HT10.out 0 (.slice A0 2 c0) rfl) hq0 1 _, Kd.R_set (Kd.R_set HR1.out HT10.out hq1 0 _) (blk_put (cs := #[.slice none 0 0, .slice none 0 0]) HT10.out 0 (.slice A0 2 c0) rfl) hq1 1 _, hBr⟩
end Go.Proofs.Ytobanhbjkomieaa.RP
