import Derived.Test.YtobanhbjkomieaaOQSb
namespace Go.Proofs.Ytobanhbjkomieaa.OP
open Go.ChangeShapes Go.WideShapes Go.Deep Go.Proofs.YtobanhbjkomieaaW.PrintWords
set_option linter.unusedSimpArgs false
set_option linter.unusedVariables false
set_option maxRecDepth 100000 in
theorem opens_CondT (w : World) : Opens Try.prog w 73 PTr.k73 (fun x => small x.f0 ∧ wf64 x.f1) :=
  opens_iso (opens_struct (d := Kd.pair Kd.string I64) (ok := fun x => small x.1 ∧ wf64 x.2) Try.underlying73 (by kernel_rfl) (seg_cons (opens_string Try.underlying9 (by kernel_rfl)) rfl (seg_one (opens_int Try.underlying2 (by kernel_rfl)) rfl)))
    (fun x : PTr.S73 => (x.f0, x.f1)) (fun a => ⟨a.1, a.2⟩) (fun _ => rfl)
set_option maxRecDepth 100000 in
theorem opens_OpT (w : World) : Opens Try.prog w 85 PTr.k85 (fun x => True ∧ small x.f1 ∧ small x.f2) :=
  opens_iso (opens_struct (d := Kd.pair Kd.bool (Kd.pair Kd.string Kd.string)) (ok := fun x => True ∧ small x.2.1 ∧ small x.2.2) Try.underlying85 (by kernel_rfl) (seg_cons (opens_bool Try.underlying4 (by kernel_rfl)) rfl (seg_cons (opens_string Try.underlying9 (by kernel_rfl)) rfl (seg_one (opens_string Try.underlying9 (by kernel_rfl)) rfl))))
    (fun x : PTr.S85 => (x.f0, x.f1, x.f2)) (fun a => ⟨a.1, a.2.1, a.2.2⟩) (fun _ => rfl)
set_option maxRecDepth 100000 in
theorem opens_Txn (w : World) : Opens Try.prog w 34 PTr.k34 TA.okX :=
  opens_ok (opens_iso (opens_struct (d := Kd.pair (Kd.slice 73 PTr.k73) (Kd.slice 85 PTr.k85)) (ok := fun x => ((∀ y ∈ x.1, small y.f0 ∧ wf64 y.f1) ∧ x.1.length ≤ maxLen) ∧ ((∀ y ∈ x.2, True ∧ small y.f1 ∧ small y.f2) ∧ x.2.length ≤ maxLen)) Try.underlying34 (by kernel_rfl)
    (seg_cons (opens_slice (opens_CondT w) Try.underlying31 (by kernel_rfl)) rfl (seg_one (opens_slice (opens_OpT w) Try.underlying32 (by kernel_rfl)) rfl)))
    (fun x : PTr.S34 => (x.f0, x.f1)) (fun a => ⟨a.1, a.2⟩) (fun _ => rfl)) (fun x h => ⟨⟨fun c hc => (h.1.1 c hc).1, h.1.2⟩, fun o ho => (h.2.1 o ho).2.1, h.2.2⟩)
theorem opens_Txns (w : World) : Opens Try.prog w 47 (Kd.slice 34 PTr.k34) (fun l => (∀ x ∈ l, TA.okX x) ∧ l.length ≤ maxLen) :=
  opens_slice (opens_Txn w) Try.underlying47 (by kernel_rfl)
theorem opens_StringsT (w : World) : Opens Try.prog w 70 (Kd.slice 9 Kd.string) (fun l => (∀ x ∈ l, x.size ≤ maxLen) ∧ l.length ≤ maxLen) :=
  opens_slice (opens_string Try.underlying9 (by kernel_rfl)) Try.underlying70 (by kernel_rfl)
end Go.Proofs.Ytobanhbjkomieaa.OP
namespace Go.Proofs.Ytobanhbjkomieaa.TA
open Go Go.RowKit Go.Proofs.Ytobanhbjkomieaa.KP Go.Proofs.YtobanhbjkomieaaW.PrintWords Go.Proofs.YtobanhbjkomieaaW.PrintLast Go.Proofs.YtobanhbjkomieaaW.PrintMore
open Go.Proofs.Ytobanhbjkomieaa.RP (below_next0)
set_option linter.unusedSimpArgs false
set_option linter.unusedVariables false
def frE (x : Ent) : PTr.S62 := ⟨x.key, x.val, x.made, x.mod⟩
def frV (x : Evt) : PTr.S60 := ⟨x.rev, x.del, x.key, x.val⟩
theorem C_frE {w : World} {A : Option Addr} {n : Nat} {l : List Ent} (h : Kd.C kEnt w A n l) : Kd.C PTr.k62 w A n (l.map frE) := by
  unfold PTr.k62
  unfold kEnt at h
  rw [C_iso] at h ⊢
  rw [List.map_map]
  exact h
theorem C_frV {w : World} {A : Option Addr} {n : Nat} {l : List Evt} (h : Kd.C kEvt w A n l) : Kd.C PTr.k60 w A n (l.map frV) := by
  unfold PTr.k60
  unfold kEvt at h
  rw [C_iso] at h ⊢
  rw [List.map_map]
  exact h
theorem entries_l0 (l : List PTr.S62) (hl : l.length ≤ 1000000000) : ∀ (d i : Nat), i + d = l.length → Ev (fun k => PTr.batonref12_Entries.l0 k l l (i : Int)) true
  | 0, i, h => by
    refine Ev.step (f := fun _ => some true) (fun k => ?_) (Ev.now _)
    simp only [PTr.batonref12_Entries.l0]
    rw [if_neg (by omega)]
  | d + 1, i, h => by
    have hw : wrap64 ((i : Int) + 1) = ((i + 1 : Nat) : Int) := by unfold wrap64; omega
    refine Ev.step (f := fun k => PTr.batonref12_Entries.l0 k l l ((i + 1 : Nat) : Int)) (fun k => ?_) (entries_l0 l hl d (i + 1) (by omega))
    simp only [PTr.batonref12_Entries.l0]
    rw [if_pos (by omega), if_pos (by omega), if_pos (by omega), if_neg (by simp), hw]
theorem events_l0 (l : List PTr.S60) (hl : l.length ≤ 1000000000) : ∀ (d i : Nat), i + d = l.length → Ev (fun k => PTr.batonref12_Events.l0 k l l (i : Int)) true
  | 0, i, h => by
    refine Ev.step (f := fun _ => some true) (fun k => ?_) (Ev.now _)
    simp only [PTr.batonref12_Events.l0]
    rw [if_neg (by omega)]
  | d + 1, i, h => by
    have hw : wrap64 ((i : Int) + 1) = ((i + 1 : Nat) : Int) := by unfold wrap64; omega
    refine Ev.step (f := fun k => PTr.batonref12_Events.l0 k l l ((i + 1 : Nat) : Int)) (fun k => ?_) (events_l0 l hl d (i + 1) (by omega))
    simp only [PTr.batonref12_Events.l0]
    rw [if_pos (by omega), if_pos (by omega), if_pos (by omega), if_neg (by simp), hw]
theorem entries_same (l : List Ent) (A B : Option Addr) (c c2 : Nat) (w : World) (hc : l.length ≤ c) (hc2 : l.length ≤ c2) (hA : Kd.C kEnt w A l.length l) (hB : Kd.C kEnt w B l.length l) (hl : l.length ≤ 1000000000) :
    Calls Try.prog 45 #[.slice A l.length c, .slice B l.length c2] w fun e w' => e = .returned (.bool true) ∧ Below w.heap.size w w' := by
  have e0 : (l.map frE).length = l.length := List.length_map _
  have h := entries_l0 (l.map frE) (by omega) (l.map frE).length 0 (by omega)
  have hE : Ev (fun k => PTr.batonref12_Entries.f k (l.map frE) (l.map frE)) true := Ev.congr (fun k => by simp only [PTr.batonref12_Entries.f, if_true]; rfl) h
  refine ev_calls hE (fun k hk => ?_)
  have := PTr.batonref12_Entries.calls k A c (l.map frE) B c2 (l.map frE) true w (by rw [e0]; exact C_frE hA) (by rw [e0]; exact hc) (by rw [e0]; exact C_frE hB) (by rw [e0]; exact hc2) hk
  rw [e0] at this
  exact this.mono fun _ _ h => ⟨h.1, h.2.below⟩
theorem events_same (l : List Evt) (A B : Option Addr) (c c2 : Nat) (w : World) (hc : l.length ≤ c) (hc2 : l.length ≤ c2) (hA : Kd.C kEvt w A l.length l) (hB : Kd.C kEvt w B l.length l) (hl : l.length ≤ 1000000000) :
    Calls Try.prog 55 #[.slice A l.length c, .slice B l.length c2] w fun e w' => e = .returned (.bool true) ∧ Below w.heap.size w w' := by
  have e0 : (l.map frV).length = l.length := List.length_map _
  have h := events_l0 (l.map frV) (by omega) (l.map frV).length 0 (by omega)
  have hE : Ev (fun k => PTr.batonref12_Events.f k (l.map frV) (l.map frV)) true := Ev.congr (fun k => by simp only [PTr.batonref12_Events.f, if_true]; rfl) h
  refine ev_calls hE (fun k hk => ?_)
  have := PTr.batonref12_Events.calls k A c (l.map frV) B c2 (l.map frV) true w (by rw [e0]; exact C_frV hA) (by rw [e0]; exact hc) (by rw [e0]; exact C_frV hB) (by rw [e0]; exact hc2) hk
  rw [e0] at this
  exact this.mono fun _ _ h => ⟨h.1, h.2.below⟩
theorem treeBegins_any (s p : ByteArray) (w : World) : Calls Try.prog 47 #[.string s, .string p] w fun e w' => e = .returned (.bool (p.data.toList.isPrefixOf s.data.toList)) ∧ Below w.heap.size w w' := by
  have hE : PTr.batonref12_Begins.f s p = some (p.data.toList.isPrefixOf s.data.toList) := by
    obtain ⟨⟨l⟩⟩ := s
    obtain ⟨⟨m⟩⟩ := p
    simp only [PTr.batonref12_Begins.f, size_mk]
    by_cases h : m.length ≤ l.length
    · rw [if_pos (by omega), if_pos (by omega), if_pos (by omega)]
      simp only [Int.toNat_natCast, Lib.extract_eq, toList_mk, List.drop_zero]
      have := take_eq_prefix l m h
      simpa using this
    · rw [if_neg (by omega)]
      congr 1
      symm
      rw [Bool.eq_false_iff]
      intro e
      exact h (List.isPrefixOf_iff_prefix.1 e).length_le
  exact (PTr.batonref12_Begins.calls s p _ w hE).mono fun _ _ h => ⟨h.1, h.2.below⟩
end Go.Proofs.Ytobanhbjkomieaa.TA
