import Derived.Test.YtobanhbjkomieaaBZSb
import Derived.Deep.RegionHeld3
import Derived.Test.YtobanhbjkomieaaPRdx1Sb
import Derived.Test.YtobanhbjkomieaaTCSb
section
namespace Go.Proofs.Ytobanhbjkomieaa.RP
open Go.RowKit Go.Proofs.Ytobanhbjkomieaa.PAll Go.Proofs.Ytobanhbjkomieaa.KP Go.Proofs.Ytobanhbjkomieaa.BP Go.Proofs.YtobanhbjkomieaaW.PrintWords Go.Proofs.YtobanhbjkomieaaW.PrintLast Go.Proofs.YtobanhbjkomieaaW.PrintMore
def mayRec (rep : ByteArray) (ep tm : Int) : Bool := isName rep.data.toList && decide (1 ≤ ep ∧ ep ≤ 1099511627776 ∧ 0 ≤ tm ∧ tm ≤ 1125899906842624)
def mayTen (live ep : Int) : Bool := decide (0 ≤ ep ∧ ep ≤ 1099511627776 ∧ 0 ≤ live ∧ live ≤ 1048576 ∧ live ≤ ep)
section
variable (rep : ByteArray) (hs : rep.size ≤ 140737488351232) (ep tm : Int) (gone : Bool) (w : World)
include hs
end
theorem keep_cell {W x : World} {a : Addr} {v : Value} (hb : Below W.heap.size W x) (h : W.cell? a = some v) : x.cell? a = some v :=
  (hb.cell (p := a) (World.block_lt_of_cell? _ _ h)).trans h
theorem below_next0 {w W x : World} (h : Below w.heap.size w W) (k : Below W.heap.size W x) : Below w.heap.size w x := h.trans (k.mono h.size)
end Go.Proofs.Ytobanhbjkomieaa.RP
namespace Go.Proofs.Ytobanhbjkomieaa.RP
open Go.RowKit Go.Proofs.Ytobanhbjkomieaa.PAll Go.Proofs.Ytobanhbjkomieaa.KP Go.Proofs.Ytobanhbjkomieaa.BP Go.Proofs.YtobanhbjkomieaaW.PrintWords Go.Proofs.YtobanhbjkomieaaW.PrintLast Go.Proofs.YtobanhbjkomieaaW.PrintMore
end Go.Proofs.Ytobanhbjkomieaa.RP
namespace Go.Proofs.Ytobanhbjkomieaa.RP
open Go.RowKit Go.Proofs.Ytobanhbjkomieaa.PAll Go.Proofs.Ytobanhbjkomieaa.KP Go.Proofs.Ytobanhbjkomieaa.BP Go.Proofs.YtobanhbjkomieaaW.PrintWords Go.Proofs.YtobanhbjkomieaaW.PrintLast Go.Proofs.YtobanhbjkomieaaW.PrintMore
open Go.Proofs.Ytobanhbjkomieaa.PRd (rv uv uv_bad uv_ok next_lt pow_le8 next_lt9)
def c3 (r : Nat × Nat × Int) : Int × Int × Int := (r.1, r.2.1, r.2.2)
end Go.Proofs.Ytobanhbjkomieaa.RP
namespace Go.Proofs.Ytobanhbjkomieaa.RP
open Go.RowKit Go.Proofs.Ytobanhbjkomieaa.PAll Go.Proofs.Ytobanhbjkomieaa.KP Go.Proofs.Ytobanhbjkomieaa.BP Go.Proofs.YtobanhbjkomieaaW.PrintWords Go.Proofs.YtobanhbjkomieaaW.PrintLast Go.Proofs.YtobanhbjkomieaaW.PrintMore
open Go.Proofs.Ytobanhbjkomieaa.PRd (rv uv uv_bad uv_ok next_lt pow_le8 next_lt9)
set_option linter.unusedSimpArgs false
set_option linter.unusedVariables false
def nb (l : List Int) : List UInt8 := l.map fun n => UInt8.ofNat n.toNat
def vb (n : Nat) : List UInt8 := nb (vint n)
abbrev Rd (α : Type) := List UInt8 → Nat → Int → α × Nat × Int
structure Codec {α : Type} (P : Rd α) (x : α) (bs : List UInt8) : Prop where
  full : ∀ pre rest, P (pre ++ (bs ++ rest)) pre.length 0 = (x, pre.length + bs.length, 0)
  cut : ∀ pre j, j < bs.length → (P (pre ++ bs.take j) pre.length 0).2.2 = 8
def Sticky {α : Type} (P : Rd α) : Prop := ∀ s p e, e ≠ 0 → (P s p e).2.2 = e
def Canon {α : Type} (P : Rd α) (enc : α → List UInt8) (ok : α → Prop) : Prop := ∀ s p e x q, P s p e = (x, q, 0) → e = 0 ∧ p + (enc x).length ≤ q ∧ ok x
def seqR {α β : Type} (P : Rd α) (Q : Rd β) : Rd (α × β) := fun s p e =>
  (((P s p e).1, (Q s (P s p e).2.1 (P s p e).2.2).1), (Q s (P s p e).2.1 (P s p e).2.2).2.1, (Q s (P s p e).2.1 (P s p e).2.2).2.2)
theorem Sticky.seq {α β : Type} {P : Rd α} {Q : Rd β} (h : Sticky P) (k : Sticky Q) : Sticky (seqR P Q) := fun s p e he => by
  have h1 := h s p e he
  show (Q s (P s p e).2.1 (P s p e).2.2).2.2 = e
  rw [h1]
  exact k s _ e he
theorem Codec.seq {α β : Type} {P : Rd α} {Q : Rd β} {x : α} {y : β} {bs cs : List UInt8} (h : Codec P x bs) (k : Codec Q y cs) (hk : Sticky Q) : Codec (seqR P Q) (x, y) (bs ++ cs) where
  full pre rest := by
    have h1 := h.full pre (cs ++ rest)
    have h2 := k.full (pre ++ bs) rest
    simp only [seqR, List.append_assoc] at *
    rw [h1]
    simp only
    rw [List.length_append] at h2
    rw [h2]
    simp [Nat.add_assoc]
  cut pre j hj := by
    show (Q _ (P _ _ 0).2.1 (P _ _ 0).2.2).2.2 = 8
    by_cases c : j < bs.length
    · have e : (bs ++ cs).take j = bs.take j := by rw [List.take_append_of_le_length (by omega)]
      rw [e, h.cut pre j c]
      exact hk _ _ 8 (by decide)
    · obtain ⟨m, rfl⟩ : ∃ m, j = bs.length + m := ⟨j - bs.length, by omega⟩
      have e : (bs ++ cs).take (bs.length + m) = bs ++ cs.take m := by
        rw [List.take_append, Nat.add_sub_cancel_left, List.take_of_length_le (by omega)]
      have h1 := h.full pre (cs.take m)
      have h2 := k.cut (pre ++ bs) m (by simp only [List.length_append] at hj; omega)
      rw [e, h1]
      simp only
      rw [List.append_assoc, List.length_append] at h2
      exact h2
theorem Canon.seq {α β : Type} {P : Rd α} {Q : Rd β} {en : α → List UInt8} {em : β → List UInt8} {ok : α → Prop} {ol : β → Prop} (h : Canon P en ok) (k : Canon Q em ol) :
    Canon (seqR P Q) (fun x => en x.1 ++ em x.2) (fun x => ok x.1 ∧ ol x.2) := by
  rintro s p e ⟨x, y⟩ q hr
  simp only [seqR, Prod.mk.injEq] at hr
  obtain ⟨⟨hx, hy⟩, hq, he⟩ := hr
  have h2 := k s _ _ y q (Prod.ext hy (Prod.ext hq he))
  have h1 := h s p e x _ (Prod.ext hx (Prod.ext rfl h2.1))
  refine ⟨h1.1, ?_, h1.2.2, h2.2.2⟩
  have a1 : p + (en x).length ≤ (P s p e).2.1 := h1.2.1
  have a2 : (P s p e).2.1 + (em y).length ≤ q := h2.2.1
  simp only [List.length_append]
  generalize (P s p e).2.1 = n at *
  omega
def tb (t : List UInt8) : List UInt8 := vb t.length ++ t
structure Rc where
  rep : List UInt8
  ep : Int
  tm : Int
  gone : Bool
deriving DecidableEq
structure Tn where
  live : Int
  ep : Int
deriving DecidableEq
def Rc.may (r : Rc) : Bool := mayRec ⟨r.rep.toArray⟩ r.ep r.tm
def Tn.may (t : Tn) : Bool := mayTen t.live t.ep
def Rc.bytes (r : Rc) : List UInt8 := tb r.rep ++ (vb r.ep.toNat ++ (vb r.tm.toNat ++ [if r.gone then 1 else 0]))
def Tn.bytes (t : Tn) : List UInt8 := vb t.live.toNat ++ vb t.ep.toNat
end Go.Proofs.Ytobanhbjkomieaa.RP
end
section
namespace Go.Proofs.Ytobanhbjkomieaa.TA
open Go Go.RowKit Go.Proofs.YtobanhbjkomieaaW.PrintWords Go.Proofs.YtobanhbjkomieaaW.PrintLast Go.Proofs.YtobanhbjkomieaaW.PrintMore
set_option linter.unusedSimpArgs false
set_option linter.unusedVariables false
def kEnt : Kd Ent := Kd.iso (Kd.pair Kd.string (Kd.pair Kd.string (Kd.pair (Kd.int .i64) (Kd.int .i64)))) (fun x : Ent => (x.key, x.val, x.made, x.mod))
def kEvt : Kd Evt := Kd.iso (Kd.pair (Kd.int .i64) (Kd.pair Kd.bool (Kd.pair Kd.string Kd.string))) (fun x : Evt => (x.rev, x.del, x.key, x.val))
def kCnd : Kd Cnd := Kd.iso (Kd.pair Kd.string (Kd.int .i64)) (fun x : Cnd => (x.key, x.mod))
def kOpn : Kd Opn := Kd.iso (Kd.pair Kd.bool (Kd.pair Kd.string Kd.string)) (fun x : Opn => (x.del, x.key, x.val))
theorem kEnt_mk (w : World) (x : Ent) : kEnt.K w x [.string x.key, .string x.val, .int .i64 x.made, .int .i64 x.mod] := ⟨[_], [_, _, _], rfl, rfl, ⟨[_], [_, _], rfl, rfl, ⟨[_], [_], rfl, rfl, rfl⟩⟩⟩
theorem kEvt_mk (w : World) (x : Evt) : kEvt.K w x [.int .i64 x.rev, .bool x.del, .string x.key, .string x.val] := ⟨[_], [_, _, _], rfl, rfl, ⟨[_], [_, _], rfl, rfl, ⟨[_], [_], rfl, rfl, rfl⟩⟩⟩
theorem kCnd_mk (w : World) (x : Cnd) : kCnd.K w x [.string x.key, .int .i64 x.mod] := ⟨[_], [_], rfl, rfl, rfl⟩
theorem kOpn_mk (w : World) (x : Opn) : kOpn.K w x [.bool x.del, .string x.key, .string x.val] := ⟨[_], [_, _], rfl, rfl, ⟨[_], [_], rfl, rfl, rfl⟩⟩
theorem kEnt_mkM (w : World) (base : Nat) (ok : Nat → Prop) (x : Ent) : kEnt.M w base ok x [.string x.key, .string x.val, .int .i64 x.made, .int .i64 x.mod] := ⟨[_], [_, _, _], rfl, rfl, ⟨[_], [_, _], rfl, rfl, ⟨[_], [_], rfl, rfl, rfl⟩⟩⟩
theorem kEvt_mkM (w : World) (base : Nat) (ok : Nat → Prop) (x : Evt) : kEvt.M w base ok x [.int .i64 x.rev, .bool x.del, .string x.key, .string x.val] := ⟨[_], [_, _, _], rfl, rfl, ⟨[_], [_, _], rfl, rfl, ⟨[_], [_], rfl, rfl, rfl⟩⟩⟩
theorem at_Ent {w : World} {A : Option Addr} {l : List Ent} (h : Kd.C kEnt w A l.length l) {k : Nat} (hk : k < l.length) :
    ∃ ad, A = some ad ∧ w.cell? (ad.add (k * 4)) = some (.string l[k].key) ∧ w.cell? ⟨(ad.add (k * 4)).block, (ad.add (k * 4)).off + 1, none⟩ = some (.string l[k].val) ∧ w.cell? ⟨(ad.add (k * 4)).block, (ad.add (k * 4)).off + 2, none⟩ = some (.int .i64 l[k].made) ∧ w.cell? ⟨(ad.add (k * 4)).block, (ad.add (k * 4)).off + 3, none⟩ = some (.int .i64 l[k].mod) := by
  obtain ⟨ad, c, e, _, hK, hc⟩ := Kd.C_get h noEnt (k : Int) (by omega) (by omega)
  simp only [Int.toNat_natCast, List.getD_eq_getElem?_getD, List.getElem?_eq_getElem hk, Option.getD_some] at hK hc
  obtain ⟨_, _, rfl, rfl, ⟨_, _, rfl, rfl, ⟨_, _, rfl, rfl, rfl⟩⟩⟩ := hK
  have hc : ∀ j u, _ → w.cell? (ad.add (k * 4 + j)) = some u := hc
  exact ⟨ad, e, hc 0 _ rfl, by rw [← add_field _ _ 1 (by omega)]; exact hc 1 _ rfl, by rw [← add_field _ _ 2 (by omega)]; exact hc 2 _ rfl, by rw [← add_field _ _ 3 (by omega)]; exact hc 3 _ rfl⟩
theorem at_Evt {w : World} {A : Option Addr} {l : List Evt} (h : Kd.C kEvt w A l.length l) {k : Nat} (hk : k < l.length) :
    ∃ ad, A = some ad ∧ w.cell? (ad.add (k * 4)) = some (.int .i64 l[k].rev) ∧ w.cell? ⟨(ad.add (k * 4)).block, (ad.add (k * 4)).off + 1, none⟩ = some (.bool l[k].del) ∧ w.cell? ⟨(ad.add (k * 4)).block, (ad.add (k * 4)).off + 2, none⟩ = some (.string l[k].key) ∧ w.cell? ⟨(ad.add (k * 4)).block, (ad.add (k * 4)).off + 3, none⟩ = some (.string l[k].val) := by
  obtain ⟨ad, c, e, _, hK, hc⟩ := Kd.C_get h ⟨0, false, ⟨#[]⟩, ⟨#[]⟩⟩ (k : Int) (by omega) (by omega)
  simp only [Int.toNat_natCast, List.getD_eq_getElem?_getD, List.getElem?_eq_getElem hk, Option.getD_some] at hK hc
  obtain ⟨_, _, rfl, rfl, ⟨_, _, rfl, rfl, ⟨_, _, rfl, rfl, rfl⟩⟩⟩ := hK
  have hc : ∀ j u, _ → w.cell? (ad.add (k * 4 + j)) = some u := hc
  exact ⟨ad, e, hc 0 _ rfl, by rw [← add_field _ _ 1 (by omega)]; exact hc 1 _ rfl, by rw [← add_field _ _ 2 (by omega)]; exact hc 2 _ rfl, by rw [← add_field _ _ 3 (by omega)]; exact hc 3 _ rfl⟩
theorem at_Cnd {w : World} {A : Option Addr} {l : List Cnd} (h : Kd.C kCnd w A l.length l) {k : Nat} (hk : k < l.length) :
    ∃ ad, A = some ad ∧ w.cell? (ad.add (k * 2)) = some (.string l[k].key) ∧ w.cell? ⟨(ad.add (k * 2)).block, (ad.add (k * 2)).off + 1, none⟩ = some (.int .i64 l[k].mod) := by
  obtain ⟨ad, c, e, _, hK, hc⟩ := Kd.C_get h ⟨⟨#[]⟩, 0⟩ (k : Int) (by omega) (by omega)
  simp only [Int.toNat_natCast, List.getD_eq_getElem?_getD, List.getElem?_eq_getElem hk, Option.getD_some] at hK hc
  obtain ⟨_, _, rfl, rfl, rfl⟩ := hK
  have hc : ∀ j u, _ → w.cell? (ad.add (k * 2 + j)) = some u := hc
  exact ⟨ad, e, hc 0 _ rfl, by rw [← add_field _ _ 1 (by omega)]; exact hc 1 _ rfl⟩
theorem at_Opn {w : World} {A : Option Addr} {l : List Opn} (h : Kd.C kOpn w A l.length l) {k : Nat} (hk : k < l.length) :
    ∃ ad, A = some ad ∧ w.cell? (ad.add (k * 3)) = some (.bool l[k].del) ∧ w.cell? ⟨(ad.add (k * 3)).block, (ad.add (k * 3)).off + 1, none⟩ = some (.string l[k].key) ∧ w.cell? ⟨(ad.add (k * 3)).block, (ad.add (k * 3)).off + 2, none⟩ = some (.string l[k].val) := by
  obtain ⟨ad, c, e, _, hK, hc⟩ := Kd.C_get h ⟨false, ⟨#[]⟩, ⟨#[]⟩⟩ (k : Int) (by omega) (by omega)
  simp only [Int.toNat_natCast, List.getD_eq_getElem?_getD, List.getElem?_eq_getElem hk, Option.getD_some] at hK hc
  obtain ⟨_, _, rfl, rfl, ⟨_, _, rfl, rfl, rfl⟩⟩ := hK
  have hc : ∀ j u, _ → w.cell? (ad.add (k * 3 + j)) = some u := hc
  exact ⟨ad, e, hc 0 _ rfl, by rw [← add_field _ _ 1 (by omega)]; exact hc 1 _ rfl, by rw [← add_field _ _ 2 (by omega)]; exact hc 2 _ rfl⟩
theorem C_iso {α β : Type} {d : Kd α} {f : β → α} {w : World} {A : Option Addr} {n : Nat} {l : List β} : Kd.C (Kd.iso d f) w A n l ↔ Kd.C d w A n (l.map f) := by
  constructor
  · rintro ⟨h1, h2, h3⟩
    refine ⟨by simpa using h1, h2, fun hn => ?_⟩
    obtain ⟨ad, e, hc⟩ := h3 hn
    refine ⟨ad, e, fun j p hj => ?_⟩
    rw [List.getElem?_map] at hj
    obtain ⟨q, hq, rfl⟩ := Option.map_eq_some_iff.1 hj
    exact hc j q hq
  · rintro ⟨h1, h2, h3⟩
    refine ⟨by simpa using h1, h2, fun hn => ?_⟩
    obtain ⟨ad, e, hc⟩ := h3 hn
    exact ⟨ad, e, fun j p hj => hc j (f p) (by rw [List.getElem?_map, hj]; rfl)⟩
structure Kb (g : Nat) (W W' : World) : Prop where
  os : W'.os = W.os
  tape : W'.tape = W.tape
  output : W'.output = W.output
  size : W.heap.size ≤ W'.heap.size
  block : ∀ k, k < W.heap.size → k ≠ g → W'.heap[k]? = W.heap[k]?
namespace Kb
variable {g : Nat} {W W1 W2 : World}
theorem refl (g : Nat) (W : World) : Kb g W W := ⟨rfl, rfl, rfl, Nat.le_refl _, fun _ _ _ => rfl⟩
theorem trans (h : Kb g W W1) (k : Kb g W1 W2) : Kb g W W2 :=
  ⟨k.os.trans h.os, k.tape.trans h.tape, k.output.trans h.output, Nat.le_trans h.size k.size, fun i hi hg => (k.block i (Nat.lt_of_lt_of_le hi h.size) hg).trans (h.block i hi hg)⟩
theorem of_below (h : Below W.heap.size W W1) (g : Nat) : Kb g W W1 := ⟨h.os, h.tape, h.output, h.size, fun i hi _ => h.block i hi⟩
theorem then_below (h : Kb g W W1) (k : Below W1.heap.size W1 W2) : Kb g W W2 := h.trans (of_below k g)
theorem set (h : Kb g W W1) (j : Nat) (u : Value) : Kb g W (W1.setCell ⟨g, j, none⟩ u) :=
  ⟨h.os, h.tape, h.output, by simpa [World.setCell] using h.size, fun i hi hg => (Below.heap_setCell W1 ⟨g, j, none⟩ u i hg).trans (h.block i hi hg)⟩
theorem drewN (h : Kb g W W1) (m : Nat) : Kb g W (W1.drewN m) := ⟨h.os, h.tape, h.output, h.size, h.block⟩
theorem drew (h : Kb g W W1) : Kb g W W1.drew := ⟨h.os, h.tape, h.output, h.size, h.block⟩
theorem alloc (h : Kb g W W1) (o : Obj) : Kb g W (W1.alloc o) := h.trans ⟨rfl, rfl, rfl, by simp, fun k hk _ => Below.heap_alloc _ _ _ hk⟩
theorem below {n : Nat} {w : World} (hb : Below n w W) (h : Kb g W W1) (hn : n ≤ g) (hW : n ≤ W.heap.size) : Below n w W1 :=
  hb.trans ⟨h.os, h.tape, h.output, h.size, fun k hk => h.block k (by omega) (by omega)⟩
theorem blk {k : Nat} {o : Obj} (h : Kb g W W1) (hk : W.heap[k]? = some o) (hg : k ≠ g) : W1.heap[k]? = some o := (h.block k (blk_lt hk) hg).trans hk
theorem keep (h : Kb g W W1) : KeepBut W W1 g none := ⟨h.size, fun i hi hg _ => h.block i hi hg⟩
end Kb
theorem far_type {W : World} {g k : Nat} {cs ds : Array Value} {t u : TypeId} (h : W.heap[g]? = some (.cells cs t (0, 0))) (k0 : W.heap[k]? = some (.cells ds u (0, 0))) (hne : u ≠ t) : k ≠ g := by
  rintro rfl
  rw [h] at k0
  injection k0 with k0
  injection k0 with _ k0
  exact hne k0.symm
namespace AT
abbrev cellsOf (e : Ent) (l r : AT) (h : Int) : Array Value := #[.string e.key, .string e.key, .string e.val, .int .i64 e.made, .int .i64 e.mod, .pointer l.adr, .pointer r.adr, .int .i64 h]
def In (W : World) : AT → Prop
  | nil => True
  | node b e l r h => W.heap[b]? = some (.cells (cellsOf e l r h) 218 (0, 0)) ∧ In W l ∧ In W r
theorem In.keep {W W' : World} (hk : ∀ (k : Nat) (cs : Array Value), W.heap[k]? = some (.cells cs 218 (0, 0)) → W'.heap[k]? = W.heap[k]?) : ∀ {t : AT}, t.In W → t.In W'
  | nil, _ => trivial
  | node b e l r h, ⟨h0, hl, hr⟩ => ⟨(hk b _ h0).trans h0, In.keep hk hl, In.keep hk hr⟩
theorem In.below {W W' : World} (hb : Below W.heap.size W W') {t : AT} (h : t.In W) : t.In W' := In.keep (fun k _ hk => hb.block k (blk_lt hk)) h
theorem In.kb {W W' : World} {g : Nat} {cs : Array Value} {T : TypeId} (hg : W.heap[g]? = some (.cells cs T (0, 0))) (hT : 218 ≠ T) (hb : Kb g W W') {t : AT} (h : t.In W) : t.In W' :=
  In.keep (fun k ds hk => hb.block k (blk_lt hk) (far_type hg hk hT)) h
def depth : AT → Nat
  | nil => 0
  | node _ _ l r _ => depth l + depth r + 1
end AT
end Go.Proofs.Ytobanhbjkomieaa.TA
end
section
namespace Go.Proofs.Ytobanhbjkomieaa.TA
open Go
set_option linter.unusedSimpArgs false
set_option linter.unusedVariables false
theorem pre_ge : ∀ {p k : List UInt8}, p.isPrefixOf k = true → ¬ k < p
  | [], k, _ => by simp
  | a :: p, [], h => by simp [List.isPrefixOf] at h
  | a :: p, b :: k, h => by
    simp only [List.isPrefixOf, Bool.and_eq_true, beq_iff_eq] at h
    obtain ⟨rfl, h⟩ := h
    rw [List.cons_lt_cons_iff]
    rintro (h1 | ⟨_, h1⟩)
    · exact absurd h1 (by simp)
    · exact pre_ge h h1
theorem pre_gap : ∀ {p k k' : List UInt8}, ¬ k < p → p.isPrefixOf k = false → k < k' → p.isPrefixOf k' = false
  | [], k, k', _, h, _ => by simp [List.isPrefixOf] at h
  | a :: p, [], k', h, _, _ => absurd (List.nil_lt_cons a p) h
  | a :: p, b :: k, [], _, _, h => by simp at h
  | a :: p, b :: k, c :: k', h0, h1, h2 => by
    rw [List.cons_lt_cons_iff] at h0 h2
    simp only [List.isPrefixOf] at h1 ⊢
    have hba : ¬ b < a := fun h => h0 (.inl h)
    by_cases hab : a = b
    · subst hab
      have hk : ¬ k < p := fun h => h0 (.inr ⟨rfl, h⟩)
      rcases h2 with h2 | ⟨rfl, h2⟩
      · have : a ≠ c := fun e => by subst e; exact absurd h2 (by simp)
        simp [this]
      · simp only [BEq.rfl, Bool.true_and] at h1 ⊢
        exact pre_gap hk h1 h2
    · have hlt : a < b := by
        rw [UInt8.lt_iff_toNat_lt] at hba ⊢
        have : a.toNat ≠ b.toNat := fun e => hab (UInt8.toNat_inj.1 e)
        omega
      have : a ≠ c := by
        rintro rfl
        rcases h2 with h2 | ⟨rfl, _⟩
        · rw [UInt8.lt_iff_toNat_lt] at h2 hlt
          omega
        · exact hab rfl
      simp [this]
def pref (p : ByteArray) (x : Ent) : Bool := p.data.toList.isPrefixOf x.key.data.toList
theorem lt_data (a b : ByteArray) : lt a b = decide (a.data.toList < b.data.toList) := by unfold lt; rw [less_eq, Lib.toList_data, Lib.toList_data]
theorem pref_ge {p : ByteArray} {x : Ent} (h : pref p x = true) : lt x.key p = false := by rw [lt_data]; exact decide_eq_false (pre_ge h)
theorem pref_gap {p : ByteArray} {x y : Ent} (h : lt x.key p = false) (hp : pref p x = false) (hxy : lt x.key y.key = true) : pref p y = false := by
  rw [lt_data] at h hxy
  exact pre_gap (of_decide_eq_false h) hp (of_decide_eq_true hxy)
theorem list_while {p : ByteArray} : ∀ {l : List Ent}, Srt l → (l.filter (fun x => !lt x.key p)).takeWhile (pref p) = listL p l
  | [], _ => rfl
  | x :: l, hs => by
    obtain ⟨h1, h2⟩ := List.pairwise_cons.1 hs
    have ih := list_while (p := p) (l := l) h2
    unfold listL at ih ⊢
    cases hx : lt x.key p
    · rw [List.filter_cons_of_pos (by simp [hx])]
      cases hp : pref p x
      · rw [List.takeWhile_cons_of_neg (by simp [hp]), List.filter_cons_of_neg (by simpa [pref] using hp)]
        symm
        rw [List.filter_eq_nil_iff]
        intro y hy
        have := pref_gap hx hp (h1 y hy)
        simpa [pref] using this
      · rw [List.takeWhile_cons_of_pos hp, List.filter_cons_of_pos (by simpa [pref] using hp), ih]
    · have hp : pref p x = false := by
        cases hp : pref p x
        · rfl
        · rw [pref_ge hp] at hx; cases hx
      rw [List.filter_cons_of_neg (by simp [hx]), List.filter_cons_of_neg (by simpa [pref] using hp), ih]
namespace AT
def from_ (k : ByteArray) : AT → List Ent
  | nil => []
  | node _ e l r _ => if lt e.key k then from_ k r else from_ k l ++ e :: from_ k r
theorem from_eq (k : ByteArray) : ∀ {t : AT}, Srt t.row → t.from_ k = t.row.filter (fun x => !lt x.key k)
  | nil, _ => rfl
  | node b e l r h, hs => by
    obtain ⟨hl, hr, h1, h2, _⟩ := srt_mid.1 hs
    have il := from_eq k hl
    have ir := from_eq k hr
    simp only [from_, row, List.filter_append]
    cases hk : lt e.key k
    · rw [List.filter_cons_of_pos (by simp [hk]), if_neg (by simp), il, ir]
    · rw [List.filter_cons_of_neg (by simp [hk]), if_pos rfl, ir]
      have : l.row.filter (fun x => !lt x.key k) = [] := by
        rw [List.filter_eq_nil_iff]
        intro y hy
        simp [lt_trans (h1 y hy) hk]
      rw [this, List.nil_append]
end AT
theorem while_all {α : Type} {f : α → Bool} : ∀ {l : List α}, (∀ x ∈ l, f x = true) → l.takeWhile f = l
  | [], _ => rfl
  | x :: l, h => by rw [List.takeWhile_cons_of_pos (h x List.mem_cons_self), while_all (fun y hy => h y (List.mem_cons_of_mem _ hy))]
theorem while_stop {α : Type} {f : α → Bool} {a b : List α} {x : α} (ha : ∀ y ∈ a, f y = true) (hx : f x = false) : (a ++ x :: b).takeWhile f = a := by
  rw [List.takeWhile_append, if_pos (by rw [while_all ha]), List.takeWhile_cons_of_neg (by simp [hx]), List.append_nil]
end Go.Proofs.Ytobanhbjkomieaa.TA
end
section
namespace Go.Proofs.Ytobanhbjkomieaa.RP
open Go.RowKit
set_option linter.unusedVariables false
section
variable {P : Program} {md : Region.Mode} {ops : Array Oper} {Q : Exit → Act → World → Prop} {S : World → Prop}
theorem wTake (i : Nat) {oi : Oper} {v : Value} {fuel : Nat} {listed : Array Bool} {a : Act} {w : World} (h : wpAnyH P md ops Q S fuel (listed.setIfInBounds i true) (a.put oi.dst v) w)
    (hi : ops[i]? = some oi := by (simp only [List.getElem?_toArray, List.getElem?_cons_zero, List.getElem?_cons_succ]; rfl))
    (hs : Region.noSelect ops = true := by kernel_rfl) (hf : Region.free md ops listed i = true := by kernel_rfl) (hr : (Region.ready md ops listed).contains i = true := by kernel_rfl)
    (hQ : ∀ c a w, Q (.panic c) (a.put oi.dst v) w → Q (.panic c) a w := by exact fun _ _ _ h => h)
    (hy : YieldsIf P ops S oi v a := by (refine Or.inl ⟨by rfl, ?_⟩; intro w hSw; (try dsimp only at hSw); go_simp; try with_reducible rfl))
    (hS : S w := by assumption) : wpAnyH P md ops Q S (fuel + 1) listed a w := wpAnyH_take hi hs hf hr hQ hy hS h
theorem wSkip (i : Nat) {oi : Oper} {fuel : Nat} {listed : Array Bool} {a : Act} {w : World} (h : wpAnyH P md ops Q S fuel (listed.setIfInBounds i true) (a.put oi.dst undef) w)
    (hi : ops[i]? = some oi := by (simp only [List.getElem?_toArray, List.getElem?_cons_zero, List.getElem?_cons_succ]; rfl))
    (hs : Region.noSelect ops = true := by kernel_rfl) (hf : Region.free md ops listed i = true := by kernel_rfl) (hr : (Region.ready md ops listed).contains i = true := by kernel_rfl)
    (hQ : ∀ c a w, Q (.panic c) (a.put oi.dst undef) w → Q (.panic c) a w := by exact fun _ _ _ h => h)
    (hy : YieldsIf P ops S oi undef a := by exact Or.inr ⟨by rfl, rfl⟩)
    (hS : S w := by assumption) : wpAnyH P md ops Q S (fuel + 1) listed a w := wpAnyH_take hi hs hf hr hQ hy hS h
theorem wOne (i : Nat) {o : Oper} {fuel : Nat} {listed : Array Bool} {a : Act} {w : World}
    (h : ∀ K' : Act → World → Prop, Shut (∀ a w, S w → (S w → wpAnyH P md ops Q S fuel (listed.setIfInBounds i true) a w) → K' a w) → if Region.wanted o (yielded ops a.tmps) = true then Oper.wp P o a w K' Q else K' (a.put o.dst undef) w)
    (hr : Region.ready md ops listed = [i] := by kernel_rfl) (ho : ops[i]? = some o := by rfl) : wpAnyH P md ops Q S (fuel + 1) listed a w := wpAnyH_ready hr (by simp) (AllReadyH.cons ho h AllReadyH.nil)
theorem wpAnyH_cast {fuel : Nat} {l l' : Array Bool} {a : Act} {w : World} (h : l = l') (H : wpAnyH P md ops Q S fuel l' a w) : wpAnyH P md ops Q S fuel l a w := h ▸ H
end
end Go.Proofs.Ytobanhbjkomieaa.RP
end
