import Derived.Test.YtobanhbjkomieaaOP
namespace Go.Proofs.Ytobanhbjkomieaa.OP
open Go.ChangeShapes Go.WideShapes Go.Deep Go.Proofs.YtobanhbjkomieaaW.PrintWords
set_option linter.unusedSimpArgs false
set_option linter.unusedVariables false
/-! ### the parameters' types -/
abbrev I64 : Kd Int := Kd.int .i64
abbrev wf64 (n : Int) : Prop := (Lit.int .i64 n).wf = true
abbrev small (s : ByteArray) : Prop := s.size ≤ maxLen
set_option maxRecDepth 100000 in
theorem opens_Record (w : World) : Opens Try.prog w 23 (Kd.pair Kd.string (Kd.pair I64 (Kd.pair I64 Kd.bool))) (fun x => small x.1 ∧ wf64 x.2.1 ∧ wf64 x.2.2.1 ∧ True) :=
  opens_struct Try.underlying23 (by kernel_rfl) (seg_cons (opens_string Try.underlying9 (by kernel_rfl)) rfl (seg_cons (opens_int Try.underlying2 (by kernel_rfl)) rfl (seg_cons (opens_int Try.underlying2 (by kernel_rfl)) rfl (seg_one (opens_bool Try.underlying4 (by kernel_rfl)) rfl))))
set_option maxRecDepth 100000 in
theorem opens_Tenant (w : World) : Opens Try.prog w 25 (Kd.pair I64 I64) (fun x => wf64 x.1 ∧ wf64 x.2) :=
  opens_struct Try.underlying25 (by kernel_rfl) (seg_cons (opens_int Try.underlying3 (by kernel_rfl)) rfl (seg_one (opens_int Try.underlying2 (by kernel_rfl)) rfl))
theorem rec_cells {w : World} {x : ByteArray × Int × Int × Bool} {cs : Array Value} (h : (Kd.pair Kd.string (Kd.pair I64 (Kd.pair I64 Kd.bool))).K w x cs.toList) : cs = #[.string x.1, .int .i64 x.2.1, .int .i64 x.2.2.1, .bool x.2.2.2] := by
  obtain ⟨_, _, e, rfl, _, _, rfl, rfl, _, _, rfl, rfl, rfl⟩ := h
  apply Array.toList_inj.1
  rw [e]
  rfl
theorem ten_cells {w : World} {x : Int × Int} {cs : Array Value} (h : (Kd.pair I64 I64).K w x cs.toList) : cs = #[.int .i64 x.1, .int .i64 x.2] := by
  obtain ⟨_, _, e, rfl, rfl⟩ := h
  apply Array.toList_inj.1
  rw [e]
  rfl
theorem wf64_bd {n : Int} (h : wf64 n) : -9223372036854775808 ≤ n ∧ n ≤ 9223372036854775807 := by
  unfold wf64 Lit.wf at h
  rw [Bool.and_eq_true, decide_eq_true_eq, decide_eq_true_eq] at h
  exact h
def okEn (x : PAll.S62) : Prop := small x.f0 ∧ small x.f1 ∧ wf64 x.f2 ∧ wf64 x.f3
set_option maxRecDepth 100000 in
theorem opens_Entry (w : World) : Opens Try.prog w 62 PAll.k62 okEn :=
  opens_iso (opens_struct (d := Kd.pair Kd.string (Kd.pair Kd.string (Kd.pair I64 I64))) (ok := fun x => small x.1 ∧ small x.2.1 ∧ wf64 x.2.2.1 ∧ wf64 x.2.2.2) Try.underlying62 (by kernel_rfl) (seg_cons (opens_string Try.underlying9 (by kernel_rfl)) rfl (seg_cons (opens_string Try.underlying9 (by kernel_rfl)) rfl (seg_cons (opens_int Try.underlying2 (by kernel_rfl)) rfl (seg_one (opens_int Try.underlying2 (by kernel_rfl)) rfl)))))
    (fun x : PAll.S62 => (x.f0, x.f1, x.f2, x.f3)) (fun a => ⟨a.1, a.2.1, a.2.2.1, a.2.2.2⟩) (fun _ => rfl)
theorem opens_Entries (w : World) : Opens Try.prog w 52 (Kd.slice 62 PAll.k62) (fun l => (∀ x ∈ l, okEn x) ∧ l.length ≤ maxLen) :=
  opens_slice (opens_Entry w) Try.underlying52 (by kernel_rfl)
end Go.Proofs.Ytobanhbjkomieaa.OP
