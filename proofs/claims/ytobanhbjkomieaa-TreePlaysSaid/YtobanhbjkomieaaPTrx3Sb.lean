import Derived.Test.YtobanhbjkomieaaProg
import Derived.Below
import Derived.Deep.Draws
import Derived.Deep.AppendLies
import Derived.Maps.AppendAt
import Derived.OwnWalk
import Derived.Laws.BytesArg
import Derived.Laws.MakeOwn
import Derived.Laws.OwnMore
import Derived.Deep.OwnRows
import Derived.Tactics
import Derived.Lib.ConvBytes
import Derived.Laws.Slices
import Derived.WalkKit
import Derived.KernelRfl
import Derived.RowKit3
import Derived.Deep.LoopGhost
import Derived.Deep.QuietTactic
import Derived.BigQuiet
import Derived.WideLaws
import Derived.Deep.DeepCutAuto
import Derived.Deep.CutBlock
import Derived.Deep.RegionHeld3
import Derived.Laws.Rows
import Derived.Lib.AppendStr
import Derived.ArgAppend
import Derived.Laws.IdiomCopy
import Derived.OrdersHeld
import Derived.Laws.BitsLemmas
import Derived.RowKit
import Derived.Lib.Bytealg
import Derived.Lib.Hide
import Derived.WalkSpells
import Derived.Laws.Externs
import Derived.WalkLawsBesides
import Derived.Test.YtobanhbjkomieaaRZSb
import Derived.Test.YtobanhbjkomieaaWWordsSb
import Derived.Test.YtobanhbjkomieaaWKeptSb
import Derived.Test.YtobanhbjkomieaaWMoreSb
section
namespace Go.Proofs.Ytobanhbjkomieaa.PTr
open Go.RowKit Go.Proofs.YtobanhbjkomieaaW.PrintWords Go.Proofs.YtobanhbjkomieaaW.PrintLast Go.Proofs.YtobanhbjkomieaaW.PrintMore
attribute [local go_sem] max2_int min2_int max_two min_two max_three min_three max_four min_four   -- for this text's walks alone
set_option linter.unusedVariables false
set_option linter.unusedSimpArgs false
def errW : Option Int → Value
 | none => .nilIface
 | some c => .iface 0 (.int .i64 c)
theorem errW_none : errW none = .nilIface := rfl
theorem errW_some (c : Int) : errW (some c) = .iface 0 (.int .i64 c) := rfl
structure S73 where
 f0 : ByteArray
 f1 : Int
def z73 : S73 := ⟨(⟨#[]⟩ : ByteArray), (0 : Int)⟩
def k73 : Kd S73 := Kd.iso (Kd.pair Kd.string (Kd.int .i64)) (fun x : S73 => (x.f0, x.f1))
theorem k73_open {w : World} {x : S73} {cs : List Value} (h : k73.K w x cs) : cs = [.string x.f0, .int .i64 x.f1] := by
 obtain ⟨_, _, rfl, rfl, rfl⟩ := h
 exact rfl
def rd_T73 (xs : List S73) (i : Int) : S73 := xs.getD i.toNat z73
theorem at_T73 {w : World} {A : Option Addr} {n : Nat} {xs : List S73} (h : Kd.C k73 w A n xs) (i : Int) (h0 : 0 ≤ i) (h1 : i < n) : ∃ ad , A = some ad ∧ w.cell? (ad.add (i.toNat * 2)) = some (.string (rd_T73 xs i).f0) ∧ w.cell? ⟨(ad.add (i.toNat * 2)).block, (ad.add (i.toNat * 2)).off + 1, none⟩ = some (.int .i64 (rd_T73 xs i).f1) := by
 obtain ⟨ad, c, e, _, hK, hc0⟩ := Kd.C_get h z73 i h0 h1
 have hc : ∀ j u, c[j]? = some u → w.cell? (ad.add (i.toNat * 2 + j)) = some u := hc0
 obtain rfl := k73_open hK
 exact ⟨ad, e, hc 0 _ rfl, by rw [← add_field _ _ 1 (by omega)]; exact hc 1 _ rfl⟩
structure S85 where
 f0 : Bool
 f1 : ByteArray
 f2 : ByteArray
def z85 : S85 := ⟨false, (⟨#[]⟩ : ByteArray), (⟨#[]⟩ : ByteArray)⟩
def k85 : Kd S85 := Kd.iso (Kd.pair Kd.bool (Kd.pair Kd.string Kd.string)) (fun x : S85 => (x.f0, x.f1, x.f2))
theorem k85_open {w : World} {x : S85} {cs : List Value} (h : k85.K w x cs) : cs = [.bool x.f0, .string x.f1, .string x.f2] := by
 obtain ⟨_, _, rfl, rfl, ⟨_, _, rfl, rfl, rfl⟩⟩ := h
 exact rfl
def rd_T85 (xs : List S85) (i : Int) : S85 := xs.getD i.toNat z85
theorem at_T85 {w : World} {A : Option Addr} {n : Nat} {xs : List S85} (h : Kd.C k85 w A n xs) (i : Int) (h0 : 0 ≤ i) (h1 : i < n) : ∃ ad , A = some ad ∧ w.cell? (ad.add (i.toNat * 3)) = some (.bool (rd_T85 xs i).f0) ∧ w.cell? ⟨(ad.add (i.toNat * 3)).block, (ad.add (i.toNat * 3)).off + 1, none⟩ = some (.string (rd_T85 xs i).f1) ∧ w.cell? ⟨(ad.add (i.toNat * 3)).block, (ad.add (i.toNat * 3)).off + 2, none⟩ = some (.string (rd_T85 xs i).f2) := by
 obtain ⟨ad, c, e, _, hK, hc0⟩ := Kd.C_get h z85 i h0 h1
 have hc : ∀ j u, c[j]? = some u → w.cell? (ad.add (i.toNat * 3 + j)) = some u := hc0
 obtain rfl := k85_open hK
 exact ⟨ad, e, hc 0 _ rfl, by rw [← add_field _ _ 1 (by omega)]; exact hc 1 _ rfl, by rw [← add_field _ _ 2 (by omega)]; exact hc 2 _ rfl⟩
structure S34 where
 f0 : (List S73)
 f1 : (List S85)
def z34 : S34 := ⟨([] : List S73), ([] : List S85)⟩
def k34 : Kd S34 := Kd.iso (Kd.pair (Kd.slice 73 k73) (Kd.slice 85 k85)) (fun x : S34 => (x.f0, x.f1))
theorem k34_open {w : World} {x : S34} {cs : List Value} (h : k34.K w x cs) : ∃ A0 c0 A1 c1, cs = [.slice A0 x.f0.length c0, .slice A1 x.f1.length c1] ∧ x.f0.length ≤ c0 ∧ k73.C w A0 x.f0.length x.f0 ∧ x.f1.length ≤ c1 ∧ k85.C w A1 x.f1.length x.f1 := by
 obtain ⟨_, _, rfl, ⟨A0, c0, rfl, l0, g0⟩, ⟨A1, c1, rfl, l1, g1⟩⟩ := h
 exact ⟨A0, c0, A1, c1, rfl, l0, g0, l1, g1⟩
def rd_T34 (xs : List S34) (i : Int) : S34 := xs.getD i.toNat z34
theorem at_T34 {w : World} {A : Option Addr} {n : Nat} {xs : List S34} (h : Kd.C k34 w A n xs) (i : Int) (h0 : 0 ≤ i) (h1 : i < n) : ∃ ad A0 c0 A1 c1, A = some ad ∧ w.cell? (ad.add (i.toNat * 2)) = some (.slice A0 (rd_T34 xs i).f0.length c0) ∧ w.cell? ⟨(ad.add (i.toNat * 2)).block, (ad.add (i.toNat * 2)).off + 1, none⟩ = some (.slice A1 (rd_T34 xs i).f1.length c1) ∧ (rd_T34 xs i).f0.length ≤ c0 ∧ k73.C w A0 (rd_T34 xs i).f0.length (rd_T34 xs i).f0 ∧ (rd_T34 xs i).f1.length ≤ c1 ∧ k85.C w A1 (rd_T34 xs i).f1.length (rd_T34 xs i).f1 := by
 obtain ⟨ad, c, e, _, hK, hc0⟩ := Kd.C_get h z34 i h0 h1
 have hc : ∀ j u, c[j]? = some u → w.cell? (ad.add (i.toNat * 2 + j)) = some u := hc0
 obtain ⟨A0, c0, A1, c1, rfl, l0, g0, l1, g1⟩ := k34_open hK
 exact ⟨ad, A0, c0, A1, c1, e, hc 0 _ rfl, by rw [← add_field _ _ 1 (by omega)]; exact hc 1 _ rfl, l0, g0, l1, g1⟩
structure S62 where
 f0 : ByteArray
 f1 : ByteArray
 f2 : Int
 f3 : Int
def z62 : S62 := ⟨(⟨#[]⟩ : ByteArray), (⟨#[]⟩ : ByteArray), (0 : Int), (0 : Int)⟩
def k62 : Kd S62 := Kd.iso (Kd.pair Kd.string (Kd.pair Kd.string (Kd.pair (Kd.int .i64) (Kd.int .i64)))) (fun x : S62 => (x.f0, x.f1, x.f2, x.f3))
theorem k62_open {w : World} {x : S62} {cs : List Value} (h : k62.K w x cs) : cs = [.string x.f0, .string x.f1, .int .i64 x.f2, .int .i64 x.f3] := by
 obtain ⟨_, _, rfl, rfl, ⟨_, _, rfl, rfl, ⟨_, _, rfl, rfl, rfl⟩⟩⟩ := h
 exact rfl
def rd_T62 (xs : List S62) (i : Int) : S62 := xs.getD i.toNat z62
theorem at_T62 {w : World} {A : Option Addr} {n : Nat} {xs : List S62} (h : Kd.C k62 w A n xs) (i : Int) (h0 : 0 ≤ i) (h1 : i < n) : ∃ ad , A = some ad ∧ w.cell? (ad.add (i.toNat * 4)) = some (.string (rd_T62 xs i).f0) ∧ w.cell? ⟨(ad.add (i.toNat * 4)).block, (ad.add (i.toNat * 4)).off + 1, none⟩ = some (.string (rd_T62 xs i).f1) ∧ w.cell? ⟨(ad.add (i.toNat * 4)).block, (ad.add (i.toNat * 4)).off + 2, none⟩ = some (.int .i64 (rd_T62 xs i).f2) ∧ w.cell? ⟨(ad.add (i.toNat * 4)).block, (ad.add (i.toNat * 4)).off + 3, none⟩ = some (.int .i64 (rd_T62 xs i).f3) := by
 obtain ⟨ad, c, e, _, hK, hc0⟩ := Kd.C_get h z62 i h0 h1
 have hc : ∀ j u, c[j]? = some u → w.cell? (ad.add (i.toNat * 4 + j)) = some u := hc0
 obtain rfl := k62_open hK
 exact ⟨ad, e, hc 0 _ rfl, by rw [← add_field _ _ 1 (by omega)]; exact hc 1 _ rfl, by rw [← add_field _ _ 2 (by omega)]; exact hc 2 _ rfl, by rw [← add_field _ _ 3 (by omega)]; exact hc 3 _ rfl⟩
structure S96 where
 f0 : Int
 f1 : S34
 f2 : ByteArray
 f3 : Int
def z96 : S96 := ⟨(0 : Int), z34, (⟨#[]⟩ : ByteArray), (0 : Int)⟩
def k96 : Kd S96 := Kd.iso (Kd.pair (Kd.int .u8) (Kd.pair k34 (Kd.pair Kd.string (Kd.int .i64)))) (fun x : S96 => (x.f0, x.f1, x.f2, x.f3))
theorem k96_open {w : World} {x : S96} {cs : List Value} (h : k96.K w x cs) : ∃ A1 c1 A2 c2, cs = [.int .u8 x.f0, .slice A1 x.f1.f0.length c1, .slice A2 x.f1.f1.length c2, .string x.f2, .int .i64 x.f3] ∧ x.f1.f0.length ≤ c1 ∧ k73.C w A1 x.f1.f0.length x.f1.f0 ∧ x.f1.f1.length ≤ c2 ∧ k85.C w A2 x.f1.f1.length x.f1.f1 := by
 obtain ⟨_, _, rfl, rfl, ⟨_, _, rfl, s1, ⟨_, _, rfl, rfl, rfl⟩⟩⟩ := h
 obtain ⟨A1, c1, A2, c2, rfl, l1, g1, l2, g2⟩ := k34_open s1
 exact ⟨A1, c1, A2, c2, rfl, l1, g1, l2, g2⟩
def rd_T96 (xs : List S96) (i : Int) : S96 := xs.getD i.toNat z96
theorem at_T96 {w : World} {A : Option Addr} {n : Nat} {xs : List S96} (h : Kd.C k96 w A n xs) (i : Int) (h0 : 0 ≤ i) (h1 : i < n) : ∃ ad A1 c1 A2 c2, A = some ad ∧ w.cell? (ad.add (i.toNat * 5)) = some (.int .u8 (rd_T96 xs i).f0) ∧ w.cell? ⟨(ad.add (i.toNat * 5)).block, (ad.add (i.toNat * 5)).off + 1, none⟩ = some (.slice A1 (rd_T96 xs i).f1.f0.length c1) ∧ w.cell? ⟨(ad.add (i.toNat * 5)).block, (ad.add (i.toNat * 5)).off + 2, none⟩ = some (.slice A2 (rd_T96 xs i).f1.f1.length c2) ∧ w.cell? ⟨(ad.add (i.toNat * 5)).block, (ad.add (i.toNat * 5)).off + 3, none⟩ = some (.string (rd_T96 xs i).f2) ∧ w.cell? ⟨(ad.add (i.toNat * 5)).block, (ad.add (i.toNat * 5)).off + 4, none⟩ = some (.int .i64 (rd_T96 xs i).f3) ∧ (rd_T96 xs i).f1.f0.length ≤ c1 ∧ k73.C w A1 (rd_T96 xs i).f1.f0.length (rd_T96 xs i).f1.f0 ∧ (rd_T96 xs i).f1.f1.length ≤ c2 ∧ k85.C w A2 (rd_T96 xs i).f1.f1.length (rd_T96 xs i).f1.f1 := by
 obtain ⟨ad, c, e, _, hK, hc0⟩ := Kd.C_get h z96 i h0 h1
 have hc : ∀ j u, c[j]? = some u → w.cell? (ad.add (i.toNat * 5 + j)) = some u := hc0
 obtain ⟨A1, c1, A2, c2, rfl, l1, g1, l2, g2⟩ := k96_open hK
 exact ⟨ad, A1, c1, A2, c2, e, hc 0 _ rfl, by rw [← add_field _ _ 1 (by omega)]; exact hc 1 _ rfl, by rw [← add_field _ _ 2 (by omega)]; exact hc 2 _ rfl, by rw [← add_field _ _ 3 (by omega)]; exact hc 3 _ rfl, by rw [← add_field _ _ 4 (by omega)]; exact hc 4 _ rfl, l1, g1, l2, g2⟩
structure S60 where
 f0 : Int
 f1 : Bool
 f2 : ByteArray
 f3 : ByteArray
def z60 : S60 := ⟨(0 : Int), false, (⟨#[]⟩ : ByteArray), (⟨#[]⟩ : ByteArray)⟩
def k60 : Kd S60 := Kd.iso (Kd.pair (Kd.int .i64) (Kd.pair Kd.bool (Kd.pair Kd.string Kd.string))) (fun x : S60 => (x.f0, x.f1, x.f2, x.f3))
theorem k60_open {w : World} {x : S60} {cs : List Value} (h : k60.K w x cs) : cs = [.int .i64 x.f0, .bool x.f1, .string x.f2, .string x.f3] := by
 obtain ⟨_, _, rfl, rfl, ⟨_, _, rfl, rfl, ⟨_, _, rfl, rfl, rfl⟩⟩⟩ := h
 exact rfl
def rd_T60 (xs : List S60) (i : Int) : S60 := xs.getD i.toNat z60
theorem at_T60 {w : World} {A : Option Addr} {n : Nat} {xs : List S60} (h : Kd.C k60 w A n xs) (i : Int) (h0 : 0 ≤ i) (h1 : i < n) : ∃ ad , A = some ad ∧ w.cell? (ad.add (i.toNat * 4)) = some (.int .i64 (rd_T60 xs i).f0) ∧ w.cell? ⟨(ad.add (i.toNat * 4)).block, (ad.add (i.toNat * 4)).off + 1, none⟩ = some (.bool (rd_T60 xs i).f1) ∧ w.cell? ⟨(ad.add (i.toNat * 4)).block, (ad.add (i.toNat * 4)).off + 2, none⟩ = some (.string (rd_T60 xs i).f2) ∧ w.cell? ⟨(ad.add (i.toNat * 4)).block, (ad.add (i.toNat * 4)).off + 3, none⟩ = some (.string (rd_T60 xs i).f3) := by
 obtain ⟨ad, c, e, _, hK, hc0⟩ := Kd.C_get h z60 i h0 h1
 have hc : ∀ j u, c[j]? = some u → w.cell? (ad.add (i.toNat * 4 + j)) = some u := hc0
 obtain rfl := k60_open hK
 exact ⟨ad, e, hc 0 _ rfl, by rw [← add_field _ _ 1 (by omega)]; exact hc 1 _ rfl, by rw [← add_field _ _ 2 (by omega)]; exact hc 2 _ rfl, by rw [← add_field _ _ 3 (by omega)]; exact hc 3 _ rfl⟩
end Go.Proofs.Ytobanhbjkomieaa.PTr
end
section
namespace Go.Proofs.Ytobanhbjkomieaa.PTr
open Go.RowKit Go.Proofs.YtobanhbjkomieaaW.PrintWords Go.Proofs.YtobanhbjkomieaaW.PrintLast Go.Proofs.YtobanhbjkomieaaW.PrintMore
attribute [local go_sem] max2_int min2_int max_two min_two max_three min_three max_four min_four   -- for this text's walks alone
set_option linter.unusedVariables false
set_option linter.unusedSimpArgs false
theorem eqA60 (d : Nat) (w : World) (x0 y0 : Int) (x1 y1 : Bool) (x2 y2 : ByteArray) (x3 y3 : ByteArray) :
  (Op.equalIn (d + 2) 60 (.agg #[.int .i64 x0, .bool x1, .string x2, .string x3]) (.agg #[.int .i64 y0, .bool y1, .string y2, .string y3])).run Try.prog w = .ok (x0 == y0 && (x1 == y1 && (x2.toList == y2.toList && (x3.toList == y3.toList)))) w := by
 refine eqA_of Try.underlying60 (by kernel_rfl) ?_
 refine eqf_cons (by rfl) (by go_simp; rfl) (by go_simp; rfl) (by go_simp) ?_
 refine eqf_cons (by rfl) (by go_simp; rfl) (by go_simp; rfl) (by go_simp) ?_
 refine eqf_cons (by rfl) (by go_simp; rfl) (by go_simp; rfl) (by go_simp) ?_
 exact eqf_last (by rfl) (by go_simp; rfl) (by go_simp; rfl) (by go_simp)
end Go.Proofs.Ytobanhbjkomieaa.PTr
end
section
namespace Go.Proofs.Ytobanhbjkomieaa.PTr
open Go.RowKit Go.Proofs.YtobanhbjkomieaaW.PrintWords Go.Proofs.YtobanhbjkomieaaW.PrintLast Go.Proofs.YtobanhbjkomieaaW.PrintMore
attribute [local go_sem] max2_int min2_int max_two min_two max_three min_three max_four min_four   -- for this text's walks alone
set_option linter.unusedVariables false
set_option linter.unusedSimpArgs false
theorem eqA62 (d : Nat) (w : World) (x0 y0 : ByteArray) (x1 y1 : ByteArray) (x2 y2 : Int) (x3 y3 : Int) :
  (Op.equalIn (d + 2) 62 (.agg #[.string x0, .string x1, .int .i64 x2, .int .i64 x3]) (.agg #[.string y0, .string y1, .int .i64 y2, .int .i64 y3])).run Try.prog w = .ok (x0.toList == y0.toList && (x1.toList == y1.toList && (x2 == y2 && (x3 == y3)))) w := by
 refine eqA_of Try.underlying62 (by kernel_rfl) ?_
 refine eqf_cons (by rfl) (by go_simp; rfl) (by go_simp; rfl) (by go_simp) ?_
 refine eqf_cons (by rfl) (by go_simp; rfl) (by go_simp; rfl) (by go_simp) ?_
 refine eqf_cons (by rfl) (by go_simp; rfl) (by go_simp; rfl) (by go_simp) ?_
 exact eqf_last (by rfl) (by go_simp; rfl) (by go_simp; rfl) (by go_simp)
end Go.Proofs.Ytobanhbjkomieaa.PTr
end
section
namespace Go.Proofs.Ytobanhbjkomieaa.PTr
open Go.RowKit Go.Proofs.YtobanhbjkomieaaW.PrintWords Go.Proofs.YtobanhbjkomieaaW.PrintLast Go.Proofs.YtobanhbjkomieaaW.PrintMore
attribute [local go_sem] max2_int min2_int max_two min_two max_three min_three max_four min_four   -- for this text's walks alone
set_option linter.unusedVariables false
set_option linter.unusedSimpArgs false
mutual
def batonlaw12_weight.j1 : Nat → Int → List (S73) → List (S85) → Option (Int)
 | 0, _, _, _ => none
 | k + 1, x3, al, aj => batonlaw12_weight.l1 k x3 0 al aj
def batonlaw12_weight.l1 : Nat → Int → Int → List (S73) → List (S85) → Option (Int)
 | 0, _, _, _, _ => none
 | k + 1, x3, x5, al, aj => if x5 < (aj.length : Int) then (if x3 < 4000 then (if 0 ≤ x5 then (batonlaw12_weight.l1 k (wrap64 ((wrap64 ((wrap64 (x3 + 10)) + (mn 4000 (((rd_T85 aj x5).f1).size : Int)))) + (mn 4000 (((rd_T85 aj x5).f2).size : Int)))) (wrap64 (x5 + 1)) al aj) else (none)) else (some x3)) else (some x3)
def batonlaw12_weight.l0 : Nat → Int → Int → List (S73) → List (S85) → Option (Int)
 | 0, _, _, _, _ => none
 | k + 1, x3, x4, al, aj => if x4 < (al.length : Int) then (if x3 < 4000 then (if 0 ≤ x4 then (batonlaw12_weight.l0 k (wrap64 ((wrap64 (x3 + 10)) + (mn 4000 (((rd_T73 al x4).f0).size : Int)))) (wrap64 (x4 + 1)) al aj) else (none)) else (batonlaw12_weight.j1 k x3 al aj)) else (batonlaw12_weight.j1 k x3 al aj)
end
def batonlaw12_weight.f (k : Nat) (ad : List (S73)) (aa : List (S85)) : Option (Int) := batonlaw12_weight.l0 k 10 0 ad aa
set_option maxHeartbeats 8000000 in
set_option maxRecDepth 100000 in
theorem batonlaw12_weight.calls (k : Nat) (A0_0 : Option Addr) (ah : Nat) (ad : List (S73)) (A0_1 : Option Addr) (ai : Nat) (aa : List (S85)) (r : Int) (w : World) (aB : Kd.C k73 w A0_0 ad.length ad) (aC : ad.length ≤ ah) (aD : Kd.C k85 w A0_1 aa.length aa) (aE : aa.length ≤ ai) (h : batonlaw12_weight.f k ad aa = some r) :
  Calls Try.prog 57 #[.agg #[.slice A0_0 ad.length ah, .slice A0_1 aa.length ai]] w fun e w' => e = .returned (.int .i64 r) ∧ Below w.heap.size w w' := by
 have hu34 := Try.underlying34
 have HR0_0 := Aside0.mk aB
 have HC0_0 := Aside0.mk aC
 clear aB aC
 have HR0_1 := Aside0.mk aD
 have HC0_1 := Aside0.mk aE
 clear aD aE
 have HB := Aside0.mk (Below.refl w.heap.size w)
 have H : (batonlaw12_weight.l0 k 10 0 ad aa) = some r := h
 clear h
 have aq := Aside0.mk H
 clear H
 go_enter Try.func57, Try.ntmps57
 go_upto_block 0 with (first | ((with_reducible refine gate_dst (N := 1) rfl ?_); refine box_event ?hg (N := 1) ?hd (cs := #[.slice A0_0 ad.length ah, .slice A0_1 aa.length ai]) (t := 34) ?hr ?_; (case hd => rfl); (case hg => rfl); (case hr => first | (go_simp; done) | (go_simp; rfl)); intro ag hg w3 hbox hb; have n0_ := Aside0.mk (below_step (by repeat (first | (with_reducible first | exact HB.out | apply below_alloc | apply pw_below_drewN | apply below_drew1) | exact HB.out)) hb); have n1_ := Aside0.mk (hbox); have n2_ := Aside0.mk ((by rw [hg]; exact (below_size (by repeat (first | (with_reducible first | exact HB.out | apply below_alloc | apply pw_below_drewN | apply below_drew1) | exact HB.out))) : w.heap.size ≤ ag)); have n3_ := Aside0.mk ((by rw [hg]; exact (below_size (by repeat (first | (with_reducible first | exact HB.out | apply below_alloc | apply pw_below_drewN | apply below_drew1) | exact HB.out))) : w.heap.size ≤ ag)); clear HB; have HB := n0_; have ab := n1_; have GW101 := n2_; have ak := n3_; clear n0_ n1_ n2_ n3_; clear hb hbox hg))
 repeat (go_quiet (first | ((with_reducible refine gate_dst (N := 1) rfl ?_); refine box_event ?hg (N := 1) ?hd (cs := #[.slice A0_0 ad.length ah, .slice A0_1 aa.length ai]) (t := 34) ?hr ?_; (case hd => rfl); (case hg => rfl); (case hr => first | (go_simp; done) | (go_simp; rfl)); intro ag hg w3 hbox hb; have n0_ := Aside0.mk (below_step (by repeat (first | (with_reducible first | exact HB.out | apply below_alloc | apply pw_below_drewN | apply below_drew1) | exact HB.out)) hb); have n1_ := Aside0.mk (hbox); have n2_ := Aside0.mk ((by rw [hg]; exact (below_size (by repeat (first | (with_reducible first | exact HB.out | apply below_alloc | apply pw_below_drewN | apply below_drew1) | exact HB.out))) : w.heap.size ≤ ag)); have n3_ := Aside0.mk ((by rw [hg]; exact (below_size (by repeat (first | (with_reducible first | exact HB.out | apply below_alloc | apply pw_below_drewN | apply below_drew1) | exact HB.out))) : w.heap.size ≤ ag)); clear HB; have HB := n0_; have ab := n1_; have GW101 := n2_; have ak := n3_; clear n0_ n1_ n2_ n3_; clear hb hbox hg)); go_upto_block 0 with (first | ((with_reducible refine gate_dst (N := 1) rfl ?_); refine box_event ?hg (N := 1) ?hd (cs := #[.slice A0_0 ad.length ah, .slice A0_1 aa.length ai]) (t := 34) ?hr ?_; (case hd => rfl); (case hg => rfl); (case hr => first | (go_simp; done) | (go_simp; rfl)); intro ag hg w3 hbox hb; have n0_ := Aside0.mk (below_step (by repeat (first | (with_reducible first | exact HB.out | apply below_alloc | apply pw_below_drewN | apply below_drew1) | exact HB.out)) hb); have n1_ := Aside0.mk (hbox); have n2_ := Aside0.mk ((by rw [hg]; exact (below_size (by repeat (first | (with_reducible first | exact HB.out | apply below_alloc | apply pw_below_drewN | apply below_drew1) | exact HB.out))) : w.heap.size ≤ ag)); have n3_ := Aside0.mk ((by rw [hg]; exact (below_size (by repeat (first | (with_reducible first | exact HB.out | apply below_alloc | apply pw_below_drewN | apply below_drew1) | exact HB.out))) : w.heap.size ≤ ag)); clear HB; have HB := n0_; have ab := n1_; have GW101 := n2_; have ak := n3_; clear n0_ n1_ n2_ n3_; clear hb hbox hg)))
 (try simp only [Act.put, List.setIfInBounds_toArray, List.set_cons_zero, List.set_cons_succ])
 go_cut [3] (fun v3 wc => ∃ (kq : Nat) (ae : Int), v3 = .int .i64 ae ∧ Aside0 (batonlaw12_weight.j1 kq ae ad aa = some r) ∧ Aside0 (kq ≤ k) ∧ Aside0 (wc.heap[ag]? = some (.cells #[(.slice A0_0 ad.length ah), (.slice A0_1 aa.length ai)] 34 (0, 0))) ∧ Aside0 (Below w.heap.size w wc))
 case first =>
  have H := aq.out
  clear aq
  have H' := Aside0.mk H
  clear H
  go_wp2
  repeat (go_quiet (fail); try go_wp2)
  go_loopg [3, 4] k (fun kq v3 v4 w' => ∃ (ae : Int) (ac : Int), v3 = .int .i64 ae ∧ v4 = .int .i64 ac ∧ Aside0 (batonlaw12_weight.l0 kq ae ac ad aa = some r) ∧ Aside0 (kq ≤ k) ∧ Aside0 (w'.heap[ag]? = some (.cells #[(.slice A0_0 ad.length ah), (.slice A0_1 aa.length ai)] 34 (0, 0))) ∧ Aside0 (Below w.heap.size w w'))
  case atStart => exact ⟨(10), (0), (by first | rfl | (simp; done) | (simp [*]; done)), (by first | rfl | (simp; done) | (simp [*]; done)), H', ⟨Nat.le_refl _⟩, ⟨by (with_reducible repeat (first | refine blk_drewN ?_ _ | refine blk_drew ?_ | refine blk_alloc ?_ _)); exact ab.out⟩, ⟨by repeat (first | (with_reducible first | exact HB.out | apply below_alloc | apply pw_below_drewN | apply below_drew1 | refine below_set ?_ ak.out) | exact HB.out)⟩⟩
  case round =>
   clear H'
   try clear p2
   obtain ⟨ae, ac, rfl, rfl, HA, HK1, ab, HB⟩ := hrel
   cases gk with
   | zero => exact absurd HA.out (by simp [batonlaw12_weight.l0])
   | succ k1 =>
    have H := HA.out
    clear HA
    simp only [batonlaw12_weight.l0] at H
    by_cases c4 : ac < (ad.length : Int)
    ·
     rw [if_pos c4] at H
     have c4b0 : decide (ac < (ad.length : Int)) = true := decide_eq_true c4
     clear c4
     (first | rw [c4b0] | (simp only [i64_w, i32_w]; rw [c4b0]) | skip)
     by_cases c5 : ae < 4000
     ·
      rw [if_pos c5] at H
      have c5b0 : decide (ae < 4000) = true := decide_eq_true c5
      clear c5
      by_cases c6 : 0 ≤ ac
      ·
       rw [if_pos c6] at H
       have c6b0 : decide (0 ≤ ac) = true := decide_eq_true c6
       clear c6
       obtain ⟨ji7, hji7⟩ : ∃ j_ : Int, (mn 4000 (((rd_T73 ad ac).f0).size : Int)) = j_ := ⟨_, rfl⟩
       replace H : (batonlaw12_weight.l0 k1 (wrap64 ((wrap64 (ae + 10)) + (ji7))) (wrap64 (ac + 1)) ad aa) = some r := by first | (rw [hji7] at H; exact H) | (simp only [hji7] at H ⊢; exact H)
       have hji7_ : (if (((rd_T73 ad ac).f0).size : Int) < 4000 then (((rd_T73 ad ac).f0).size : Int) else 4000) = ji7 := hji7
       have H' := Aside0.mk H
       clear H
       have aF : wr.cell? ⟨ag, 0, none⟩ = some (.slice A0_0 ad.length ah) := (blk_cell ab.out 0).trans rfl
       have aG : wr.cell? ⟨ag, 1, none⟩ = some (.slice A0_1 aa.length ai) := (blk_cell ab.out 1).trans rfl
       have aH := blk_frozen ab.out 0
       have aI := blk_frozen ab.out 1
       have p102 : 0 ≤ (ac : Int) := of_decide_eq_true (by first | (with_reducible assumption) | assumption)
       have q102 : ac < (ad.length : Int) := of_decide_eq_true (by first | (with_reducible assumption) | assumption)
       obtain ⟨ad102, e102, an, ao⟩ := at_T73 HR0_0.out ac p102 q102
       cases e102
       replace an := (HB.out.cell (World.block_lt_of_cell? w _ an)).trans an
       replace ao := (HB.out.cell (World.block_lt_of_cell? w _ ao)).trans ao
       replace p102 := eq_true p102
       replace q102 := eq_true q102
       go_wp2
       repeat (go_quiet (fail); try go_wp2)
       go_roundg k1
       case measure => have := HK1.out; omega
       case rel => exact ⟨(wrap64 ((wrap64 (ae + 10)) + (ji7))), (wrap64 (ac + 1)), (by first | rfl | (simp; done) | (simp only [← hji7] <;> (first | rfl | simp)) | (simp [*]; done)), (by first | rfl | (simp; done) | (simp [*]; done)), H', ⟨by have := HK1.out; omega⟩, ⟨by (with_reducible repeat (first | refine blk_drewN ?_ _ | refine blk_drew ?_ | refine blk_alloc ?_ _)); exact ab.out⟩, ⟨by repeat (first | (with_reducible first | exact HB.out | apply below_alloc | apply pw_below_drewN | apply below_drew1 | refine below_set ?_ ak.out) | exact HB.out)⟩⟩
      ·
       rw [if_neg c6] at H
       exact absurd H (by simp)
     ·
      rw [if_neg c5] at H
      have c5b0 : decide (ae < 4000) = false := decide_eq_false c5
      clear c5
      have H' := Aside0.mk H
      clear H
      have aJ : wr.cell? ⟨ag, 0, none⟩ = some (.slice A0_0 ad.length ah) := (blk_cell ab.out 0).trans rfl
      have aK : wr.cell? ⟨ag, 1, none⟩ = some (.slice A0_1 aa.length ai) := (blk_cell ab.out 1).trans rfl
      have aL := blk_frozen ab.out 0
      have aM := blk_frozen ab.out 1
      go_wp2
      repeat (go_quiet (fail); try go_wp2)
      go_meet
      case rel => exact ⟨_, (ae), (by first | rfl | (simp; done) | (simp [*]; done)), H', ⟨by have := HK1.out; first | omega | exact Nat.le_refl _⟩, ⟨by (with_reducible repeat (first | refine blk_drewN ?_ _ | refine blk_drew ?_ | refine blk_alloc ?_ _)); exact ab.out⟩, ⟨by repeat (first | (with_reducible first | exact HB.out | apply below_alloc | apply pw_below_drewN | apply below_drew1 | refine below_set ?_ ak.out) | exact HB.out)⟩⟩
    ·
     rw [if_neg c4] at H
     have c4b0 : decide (ac < (ad.length : Int)) = false := decide_eq_false c4
     clear c4
     (first | rw [c4b0] | (simp only [i64_w, i32_w]; rw [c4b0]) | skip)
     have H' := Aside0.mk H
     clear H
     have aN : wr.cell? ⟨ag, 0, none⟩ = some (.slice A0_0 ad.length ah) := (blk_cell ab.out 0).trans rfl
     have aO : wr.cell? ⟨ag, 1, none⟩ = some (.slice A0_1 aa.length ai) := (blk_cell ab.out 1).trans rfl
     have aP := blk_frozen ab.out 0
     have aQ := blk_frozen ab.out 1
     go_wp2
     repeat (go_quiet (fail); try go_wp2)
     go_meet
     case rel => exact ⟨_, (ae), (by first | rfl | (simp; done) | (simp [*]; done)), H', ⟨by have := HK1.out; first | omega | exact Nat.le_refl _⟩, ⟨by (with_reducible repeat (first | refine blk_drewN ?_ _ | refine blk_drew ?_ | refine blk_alloc ?_ _)); exact ab.out⟩, ⟨by repeat (first | (with_reducible first | exact HB.out | apply below_alloc | apply pw_below_drewN | apply below_drew1 | refine below_set ?_ ak.out) | exact HB.out)⟩⟩
 case rest =>
  clear aq
  try clear p1
  try clear q1
  try clear hx1
  try clear p2
  try clear c4
  try clear c4b0
  try clear c5
  try clear c5b0
  try clear c6
  try clear c6b0
  try clear p6
  try clear p10
  try clear q10
  try clear hx10
  try clear aN
  try clear aO
  try clear aF
  try clear aG
  try clear aJ
  try clear aK
  try clear aP
  try clear aQ
  try clear aH
  try clear aI
  try clear aL
  try clear aM
  try clear an
  try clear ao
  try clear p102
  try clear p2
  try clear q102
  obtain ⟨kq, ae, rfl, HA, HJ1, ab, HB⟩ := hcut
  cases kq with
  | zero => exact absurd HA.out (by simp [batonlaw12_weight.j1])
  | succ kj1 =>
   have H := HA.out
   clear HA
   simp only [batonlaw12_weight.j1] at H
   have H' := Aside0.mk H
   clear H
   go_wp2
   repeat (go_quiet (fail); try go_wp2)
   go_loopg [3, 5] kj1 (fun kq v3 v5 w' => ∃ (am : Int) (af : Int), v3 = .int .i64 am ∧ v5 = .int .i64 af ∧ Aside0 (batonlaw12_weight.l1 kq am af ad aa = some r) ∧ Aside0 (kq ≤ kj1) ∧ Aside0 (w'.heap[ag]? = some (.cells #[(.slice A0_0 ad.length ah), (.slice A0_1 aa.length ai)] 34 (0, 0))) ∧ Aside0 (Below w.heap.size w w'))
   case atStart => exact ⟨(ae), (0), (by first | rfl | (simp; done) | (simp [*]; done)), (by first | rfl | (simp; done) | (simp [*]; done)), H', ⟨Nat.le_refl _⟩, ⟨by (with_reducible repeat (first | refine blk_drewN ?_ _ | refine blk_drew ?_ | refine blk_alloc ?_ _)); exact ab.out⟩, ⟨by repeat (first | (with_reducible first | exact HB.out | apply below_alloc | apply pw_below_drewN | apply below_drew1 | refine below_set ?_ ak.out) | exact HB.out)⟩⟩
   case round =>
    clear H'
    try clear p1
    try clear q1
    try clear hx1
    try clear p2
    try clear c4
    try clear c4b0
    try clear c5
    try clear c5b0
    try clear c6
    try clear c6b0
    try clear p6
    try clear p10
    try clear q10
    try clear hx10
    try clear aN
    try clear aO
    try clear aF
    try clear aG
    try clear aJ
    try clear aK
    try clear aP
    try clear aQ
    try clear aH
    try clear aI
    try clear aL
    try clear aM
    try clear an
    try clear ao
    try clear p1
    try clear p10
    try clear p102
    try clear p2
    try clear p6
    try clear q1
    try clear q10
    try clear q102
    obtain ⟨am, af, rfl, rfl, HA, HK2, ab, HB⟩ := hrel
    cases gk with
    | zero => exact absurd HA.out (by simp [batonlaw12_weight.l1])
    | succ k2 =>
     have H := HA.out
     clear HA
     simp only [batonlaw12_weight.l1] at H
     by_cases c11 : af < (aa.length : Int)
     ·
      rw [if_pos c11] at H
      have c11b0 : decide (af < (aa.length : Int)) = true := decide_eq_true c11
      clear c11
      by_cases c12 : am < 4000
      ·
       rw [if_pos c12] at H
       have c12b0 : decide (am < 4000) = true := decide_eq_true c12
       clear c12
       by_cases c13 : 0 ≤ af
       ·
        rw [if_pos c13] at H
        have c13b0 : decide (0 ≤ af) = true := decide_eq_true c13
        clear c13
        obtain ⟨ji14, hji14⟩ : ∃ j_ : Int, (mn 4000 (((rd_T85 aa af).f1).size : Int)) = j_ := ⟨_, rfl⟩
        replace H : (batonlaw12_weight.l1 k2 (wrap64 ((wrap64 ((wrap64 (am + 10)) + (ji14))) + (mn 4000 (((rd_T85 aa af).f2).size : Int)))) (wrap64 (af + 1)) ad aa) = some r := by first | (rw [hji14] at H; exact H) | (simp only [hji14] at H ⊢; exact H)
        have hji14_ : (if (((rd_T85 aa af).f1).size : Int) < 4000 then (((rd_T85 aa af).f1).size : Int) else 4000) = ji14 := hji14
        obtain ⟨ji15, hji15⟩ : ∃ j_ : Int, (mn 4000 (((rd_T85 aa af).f2).size : Int)) = j_ := ⟨_, rfl⟩
        replace H : (batonlaw12_weight.l1 k2 (wrap64 ((wrap64 ((wrap64 (am + 10)) + (ji14))) + (ji15))) (wrap64 (af + 1)) ad aa) = some r := by first | (rw [hji15] at H; exact H) | (simp only [hji15] at H ⊢; exact H)
        have hji15_ : (if (((rd_T85 aa af).f2).size : Int) < 4000 then (((rd_T85 aa af).f2).size : Int) else 4000) = ji15 := hji15
        have H' := Aside0.mk H
        clear H
        have aX : wr.cell? ⟨ag, 0, none⟩ = some (.slice A0_0 ad.length ah) := (blk_cell ab.out 0).trans rfl
        have aY : wr.cell? ⟨ag, 1, none⟩ = some (.slice A0_1 aa.length ai) := (blk_cell ab.out 1).trans rfl
        have aZ := blk_frozen ab.out 0
        have a0 := blk_frozen ab.out 1
        have p103 : 0 ≤ (af : Int) := of_decide_eq_true (by first | (with_reducible assumption) | assumption)
        have q103 : af < (aa.length : Int) := of_decide_eq_true (by first | (with_reducible assumption) | assumption)
        obtain ⟨ad103, e103, ar, au, av⟩ := at_T85 HR0_1.out af p103 q103
        cases e103
        replace ar := (HB.out.cell (World.block_lt_of_cell? w _ ar)).trans ar
        replace au := (HB.out.cell (World.block_lt_of_cell? w _ au)).trans au
        replace av := (HB.out.cell (World.block_lt_of_cell? w _ av)).trans av
        replace p103 := eq_true p103
        replace q103 := eq_true q103
        have p104 : 0 ≤ (af : Int) := of_decide_eq_true (by first | (with_reducible assumption) | assumption)
        have q104 : af < (aa.length : Int) := of_decide_eq_true (by first | (with_reducible assumption) | assumption)
        obtain ⟨ad104, e104, aw, ax, ay⟩ := at_T85 HR0_1.out af p104 q104
        obtain rfl : ad103 = ad104 := (by injection e104)
        replace aw := (HB.out.cell (World.block_lt_of_cell? w _ aw)).trans aw
        replace ax := (HB.out.cell (World.block_lt_of_cell? w _ ax)).trans ax
        replace ay := (HB.out.cell (World.block_lt_of_cell? w _ ay)).trans ay
        replace p104 := eq_true p104
        replace q104 := eq_true q104
        go_wp2
        repeat (go_quiet (fail); try go_wp2)
        go_roundg k2
        case measure => have := HJ1.out; have := HK2.out; omega
        case rel => exact ⟨(wrap64 ((wrap64 ((wrap64 (am + 10)) + (ji14))) + (ji15))), (wrap64 (af + 1)), (by first | rfl | (simp; done) | (simp only [← hji14, ← hji15] <;> (first | rfl | simp)) | (simp [*]; done)), (by first | rfl | (simp; done) | (simp [*]; done)), H', ⟨by have := HJ1.out; have := HK2.out; omega⟩, ⟨by (with_reducible repeat (first | refine blk_drewN ?_ _ | refine blk_drew ?_ | refine blk_alloc ?_ _)); exact ab.out⟩, ⟨by repeat (first | (with_reducible first | exact HB.out | apply below_alloc | apply pw_below_drewN | apply below_drew1 | refine below_set ?_ ak.out) | exact HB.out)⟩⟩
       ·
        rw [if_neg c13] at H
        exact absurd H (by simp)
      ·
       rw [if_neg c12] at H
       have c12b0 : decide (am < 4000) = false := decide_eq_false c12
       clear c12
       obtain rfl := Option.some.inj H
       have a1 : wr.cell? ⟨ag, 0, none⟩ = some (.slice A0_0 ad.length ah) := (blk_cell ab.out 0).trans rfl
       have a2 : wr.cell? ⟨ag, 1, none⟩ = some (.slice A0_1 aa.length ai) := (blk_cell ab.out 1).trans rfl
       have a3 := blk_frozen ab.out 0
       have a4 := blk_frozen ab.out 1
       go_wp2
       repeat (go_quiet (fail); try go_wp2)
       go_ret
       exact ⟨by first | rfl | (simp [errW_none, errW_some] <;> rfl) | (simp [*, errW_none, errW_some] <;> rfl), by repeat (first | (with_reducible first | exact HB.out | apply below_alloc | apply pw_below_drewN | apply below_drew1 | refine below_set ?_ ak.out) | exact HB.out)⟩
     ·
      rw [if_neg c11] at H
      have c11b0 : decide (af < (aa.length : Int)) = false := decide_eq_false c11
      clear c11
      obtain rfl := Option.some.inj H
      have a5 : wr.cell? ⟨ag, 0, none⟩ = some (.slice A0_0 ad.length ah) := (blk_cell ab.out 0).trans rfl
      have a6 : wr.cell? ⟨ag, 1, none⟩ = some (.slice A0_1 aa.length ai) := (blk_cell ab.out 1).trans rfl
      have a7 := blk_frozen ab.out 0
      have a8 := blk_frozen ab.out 1
      go_wp2
      repeat (go_quiet (fail); try go_wp2)
      go_ret
      exact ⟨by first | rfl | (simp [errW_none, errW_some] <;> rfl) | (simp [*, errW_none, errW_some] <;> rfl), by repeat (first | (with_reducible first | exact HB.out | apply below_alloc | apply pw_below_drewN | apply below_drew1 | refine below_set ?_ ak.out) | exact HB.out)⟩
def batonlaw12_wide.l0 : Nat → List (S34) → Int → Int → Option (Bool)
 | 0, _, _, _ => none
 | k + 1, x0, x3, x4 => if x4 < (x0.length : Int) then (if x3 < 5000 then (if 0 ≤ x4 then ((batonlaw12_weight.f k ((rd_T34 x0 x4).f0) ((rd_T34 x0 x4).f1)).bind fun ap => (batonlaw12_wide.l0 k x0 (wrap64 (x3 + ap)) (wrap64 (x4 + 1)))) else (none)) else (some (decide (x3 ≥ 5000)))) else (some (decide (x3 ≥ 5000)))
def batonlaw12_wide.f (k : Nat) (l0 : List (S34)) : Option (Bool) := batonlaw12_wide.l0 k l0 0 0
set_option maxHeartbeats 8000000 in
set_option maxRecDepth 100000 in
theorem batonlaw12_wide.calls (k : Nat) (A0 : Option Addr) (c0 : Nat) (l0 : List (S34)) (r : Bool) (w : World) (hr0 : Kd.C k34 w A0 l0.length l0) (hc0 : l0.length ≤ c0) (h : batonlaw12_wide.f k l0 = some r) :
  Calls Try.prog 38 #[.slice A0 l0.length c0] w fun e w' => e = .returned (.bool r) ∧ Below w.heap.size w w' := by
 have hu34 := Try.underlying34
 have HR0 := Aside0.mk hr0
 have a9 := Aside0.mk hc0
 clear hr0 hc0
 have HB := Aside0.mk (Below.refl w.heap.size w)
 have H : (batonlaw12_wide.l0 k l0 0 0) = some r := h
 clear h
 have H' := Aside0.mk H
 clear H
 go_enter Try.func38, Try.ntmps38
 go_wp2
 go_loopg [3, 4] k (fun kq v3 v4 w' => ∃ (ae : Int) (ac : Int), v3 = .int .i64 ae ∧ v4 = .int .i64 ac ∧ Aside0 (batonlaw12_wide.l0 kq l0 ae ac = some r) ∧ Aside0 (kq ≤ k) ∧ Aside0 (Below w.heap.size w w'))
 case atStart => exact ⟨(0), (0), (by first | rfl | (simp; done) | (simp [*]; done)), (by first | rfl | (simp; done) | (simp [*]; done)), H', ⟨Nat.le_refl _⟩, ⟨by repeat (first | (with_reducible first | exact HB.out | apply below_alloc | apply pw_below_drewN | apply below_drew1) | exact HB.out)⟩⟩
 case round =>
  clear H'
  obtain ⟨ae, ac, rfl, rfl, HA, HK1, HB⟩ := hrel
  cases gk with
  | zero => exact absurd HA.out (by simp [batonlaw12_wide.l0])
  | succ k1 =>
   have H := HA.out
   clear HA
   simp only [batonlaw12_wide.l0] at H
   by_cases c2 : ac < (l0.length : Int)
   ·
    rw [if_pos c2] at H
    have c2b0 : decide (ac < (l0.length : Int)) = true := decide_eq_true c2
    clear c2
    by_cases c3 : ae < 5000
    ·
     rw [if_pos c3] at H
     have c3b0 : decide (ae < 5000) = true := decide_eq_true c3
     clear c3
     by_cases c4 : 0 ≤ ac
     ·
      rw [if_pos c4] at H
      have c4b0 : decide (0 ≤ ac) = true := decide_eq_true c4
      clear c4
      replace H := Option.bind_eq_some_iff.mp H
      obtain ⟨ap, A50, H⟩ := H
      replace H : (batonlaw12_wide.l0 k1 l0 (wrap64 (ae + ap)) (wrap64 (ac + 1))) = some r := H
      have A5 := Aside0.mk A50
      clear A50
      have H' := Aside0.mk H
      clear H
      have p105 : 0 ≤ (ac : Int) := of_decide_eq_true (by first | (with_reducible assumption) | assumption)
      have q105 : ac < (l0.length : Int) := of_decide_eq_true (by first | (with_reducible assumption) | assumption)
      obtain ⟨ad105, A105_0, aV, A105_1, aW, e105, az, aA, aR, aS, aT, aU⟩ := at_T34 HR0.out ac p105 q105
      cases e105
      replace az := (HB.out.cell (World.block_lt_of_cell? w _ az)).trans az
      replace aA := (HB.out.cell (World.block_lt_of_cell? w _ aA)).trans aA
      have HR105_0 := Aside0.mk aS
      have HC105_0 := Aside0.mk aR
      clear aS aR
      have HR105_1 := Aside0.mk aU
      have HC105_1 := Aside0.mk aT
      clear aU aT
      replace p105 := eq_true p105
      replace q105 := eq_true q105
      go_wp2_with (first | ((with_reducible refine gate_callee (f := 57) rfl ?_); refine goesL_ (some 20) rfl rfl Try.func57 (by kernel_rfl) rfl #[.agg #[.slice A105_0 ((rd_T34 l0 ac).f0).length aV, .slice A105_1 ((rd_T34 l0 ac).f1).length aW]] rfl (by (try simp only [List.map_toArray, List.map_cons, List.map_nil]); first | done | rfl | (simp only [List.length_drop, List.length_take]; rfl)) ?_; (with_reducible refine (batonlaw12_weight.calls k1 _ _ ((rd_T34 l0 ac).f0) _ _ ((rd_T34 l0 ac).f1) ap _ ?side1 ?side2 ?side3 ?side4 A5.out).mono ?_); (case side1 => repeat (first | exact (Kd.C_below HR105_0.out HB.out) | (with_reducible refine Kd.C_alloc ?_ _) | (with_reducible refine Kd.C_drewN ?_ _) | (with_reducible refine Kd.C_drew ?_))); (case side2 => exact HC105_0.out); (case side3 => repeat (first | exact (Kd.C_below HR105_1.out HB.out) | (with_reducible refine Kd.C_alloc ?_ _) | (with_reducible refine Kd.C_drewN ?_ _) | (with_reducible refine Kd.C_drew ?_))); (case side4 => exact HC105_1.out); rintro e w6 ⟨rfl, hb⟩; refine ⟨_, rfl, ?_⟩; have n0_ := Aside0.mk (below_step (by repeat (first | (with_reducible first | exact HB.out | apply below_alloc | apply pw_below_drewN | apply below_drew1) | exact HB.out)) hb); clear HB; have HB := n0_; clear n0_; (try clear hb); (try clear hb2); (try clear hk); (try clear hi)))
      go_roundg k1
      case measure => have := HK1.out; omega
      case rel => exact ⟨(wrap64 (ae + ap)), (wrap64 (ac + 1)), (by first | rfl | (simp; done) | (simp [*]; done)), (by first | rfl | (simp; done) | (simp [*]; done)), H', ⟨by have := HK1.out; omega⟩, ⟨by repeat (first | (with_reducible first | exact HB.out | apply below_alloc | apply pw_below_drewN | apply below_drew1) | exact HB.out)⟩⟩
     ·
      rw [if_neg c4] at H
      exact absurd H (by simp)
    ·
     rw [if_neg c3] at H
     have c3b0 : decide (ae < 5000) = false := decide_eq_false c3
     clear c3
     obtain rfl := Option.some.inj H
     go_wp2
     go_ret
     exact ⟨by first | rfl | (simp [errW_none, errW_some] <;> rfl) | (simp [*, errW_none, errW_some] <;> rfl), by repeat (first | (with_reducible first | exact HB.out | apply below_alloc | apply pw_below_drewN | apply below_drew1) | exact HB.out)⟩
   ·
    rw [if_neg c2] at H
    have c2b0 : decide (ac < (l0.length : Int)) = false := decide_eq_false c2
    clear c2
    obtain rfl := Option.some.inj H
    go_wp2
    go_ret
    exact ⟨by first | rfl | (simp [errW_none, errW_some] <;> rfl) | (simp [*, errW_none, errW_some] <;> rfl), by repeat (first | (with_reducible first | exact HB.out | apply below_alloc | apply pw_below_drewN | apply below_drew1) | exact HB.out)⟩
end Go.Proofs.Ytobanhbjkomieaa.PTr
end
