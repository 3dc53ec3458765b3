/- The law baton/batonlaw18.RecordNames of the given program: for every input the call returns true, and each argument reads behind the call as it read before. No condition. -/
import Derived.Test.YtobanhbjkomieaaRows
import Derived.Test.YtobanhbjkomieaaJP
import Derived.Test.YtobanhbjkomieaaRV
import Derived.WalkKit
import Derived.ProofKit
import Derived.OpenShut
import Derived.ShutString
import Derived.ChangeOld
import Derived.Below
import Derived.SizedLaws
namespace Go.Proofs.Ytobanhbjkomieaa.recordNames
open Go.ChangeShapes Go.WideShapes Go.ChangeAt Go.RowKit
open Go.ChangeMaps (open_string shut_string)
theorem own : ownKnob Try.prog.godebug = none := by kernel_rfl
set_option maxRecDepth 100000 in
theorem lifted (os : Os) (started : os.Started) (H : Type) (enc : TypeId × Value → H) :
    ReturnsInHanded {} Try.checked os 18 .any (Rows.recordNamesSpec.pre6 enc Try.prog Try.f18 Rows.recordNamesRow.domain false) (Rows.recordNamesSpec.post enc Try.prog Try.f18 false true false false) := by
  refine returnsInHanded_of_change_sized (C := Try.checked) own started (by kernel_rfl) Try.func18
    (ChangeSpec.witness6 (enc := enc) (C := Try.checked) false ⟨#[], #[], []⟩ 8 (by kernel_rfl) (by kernel_rfl) (by kernel_rfl) (by kernel_rfl)) ?_
  intro W base args ds gs before hval0 hW _ hsz0 _
  have hW' := hW
  obtain ⟨p, q, hA0, hV, rfl, hfz, hnd⟩ := hW
  have hA : DataW.TrodAll enc Try.prog W 0 (fun _ => true) true Try.f18.params.toList args.toList ds p := hA0
  rw [Try.params18] at hA
  obtain ⟨rfl, rfl, rfl⟩ := trodAll_none hA
  obtain ⟨rfl, rfl⟩ := trodVars_none hV
  clear hA0 hval0 hsz0
  refine (RP.RecordNames_walk  W ).mono fun e W' ⟨he, bel⟩ => ?_
  subst he
  exact ⟨_, rfl, _, _, _, [], _, [], hW', trodAll_mk1 (shut_bool Try.underlying4 _), trodAll_mk0, rfl, bel.frame _, fun h => by cases h⟩
theorem and_t {a b : Bool} (h : a = true) (k : b = true) : (a && b) = true := by rw [h, k]; rfl
theorem j0 : (Rows.recordNamesRow.wf (OpenSpec.ofChange Rows.recordNamesSpec)) = true := by kernel_rfl
theorem j1 : (laidOutB Try.checked.prog) = true := JP.j1
theorem j2 : (mapsRowed Try.checked.prog) = true := JP.j2
theorem j3 : (Try.f18.params.all (Try.checked.prog.readableRec ·)) = true := by kernel_rfl
theorem j4 : (namedTie Try.checked.prog Rows.recordNamesRow.named Rows.recordNamesSpec.vars) = true := by kernel_rfl
theorem j5 : ((Rows.recordNamesRow.stops == [])) = true := by kernel_rfl
theorem j6 : ((Try.checked.prog.stops == [])) = true := by kernel_rfl
theorem j7 : ((Rows.recordNamesRow.knobs == [])) = true := by kernel_rfl
theorem j8 : ((Try.checked.prog.stopKnobs == [])) = true := by kernel_rfl
theorem j9 : ((Rows.recordNamesRow.inPlace == Try.checked.prog.inPlace 18)) = true := by kernel_rfl
theorem j10 : ((Rows.recordNamesRow.unfollowed == Try.checked.prog.unfollowed 18)) = true := by kernel_rfl
theorem j11 : ((Rows.recordNamesRow.recurses == Try.checked.prog.recurses 18)) = true := by kernel_rfl
theorem j12 : ((Rows.recordNamesRow.named == Try.checked.prog.varsNamed 18)) = true := by kernel_rfl
theorem j13 : ((Rows.recordNamesRow.maps == (Try.f18.params.toList ++ Rows.recordNamesSpec.plain.varTypes Try.checked.prog).any (Try.checked.prog.mapsRec ·))) = true := by kernel_rfl
theorem j14 : ((Rows.recordNamesRow.ifaces == (Try.f18.params.toList ++ Rows.recordNamesSpec.plain.varTypes Try.checked.prog).any (Try.checked.prog.ifacesRec ·))) = true := by kernel_rfl
theorem j15 : ((Rows.recordNamesRow.mapsOut == Try.checked.prog.mapsAmong Try.f18.resultTypes.toList)) = true := by kernel_rfl
theorem j16 : ((Rows.recordNamesRow.loops == (Try.f18.params.toList ++ Rows.recordNamesSpec.plain.varTypes Try.checked.prog).any (Try.checked.prog.loopsFrom ·))) = true := by kernel_rfl
theorem j17 : ((Rows.recordNamesRow.wideKeys == (Try.f18.params.toList ++ Rows.recordNamesSpec.plain.varTypes Try.checked.prog ++ Try.f18.resultTypes.toList).any (Try.checked.prog.wideKeysFrom ·))) = true := by kernel_rfl
theorem j18 : (Rows.recordNamesSpec.vars.all (Try.checked.prog.varReadable ·)) = true := by kernel_rfl
theorem j19 : (Try.f18.resultTypes.all (fun t => Try.checked.prog.readableRec t && decide (t < Try.checked.prog.types.size))) = true := by kernel_rfl
theorem j20 : ((Rows.recordNamesRow.ifacesOut == Try.f18.resultTypes.toList.any (Try.checked.prog.ifacesRec ·))) = true := by kernel_rfl
theorem j21 : ((Rows.recordNamesRow.loopsOut == Try.f18.resultTypes.toList.any (Try.checked.prog.loopsFrom ·))) = true := by kernel_rfl
theorem j22 : ((Rows.recordNamesRow.plainKeys == Try.checked.prog.plainKeys)) = true := JP.j22
theorem j23 : (Rows.recordNamesRow.shortTexts.isNone) = true := by kernel_rfl
theorem j24 : (Try.checked.prog.stopsHeard) = true := JP.j24
theorem j25 : (Try.checked.prog.mayEnter) = true := JP.j25
theorem j26 : ((Rows.recordNamesRow.lifted == Try.checked.prog.liftsFinal)) = true := JP.j26
theorem j27 : ((Try.checked.prog.make == some Rows.recordNamesRow.make)) = true := JP.j27
theorem j28 : ((Rows.recordNamesRow.kinds == (if Rows.recordNamesRow.domain.isEmpty then [] else Try.f18.params.toList.map fun t => match Try.checked.prog.underlying t with | some (.int k) => some k | _ => none))) = true := by kernel_rfl
theorem j29 : ((Rows.recordNamesRow.pinned == Rows.recordNamesRow.pinnedBy)) = true := by kernel_rfl
theorem j30 : ((Rows.recordNamesRow.veiled == (Try.f18.params.toList ++ Rows.recordNamesSpec.plain.varTypes Try.checked.prog ++ Try.f18.resultTypes.toList).any (Try.checked.prog.veiledRec ·))) = true := by kernel_rfl
theorem j31 : (Rows.recordNamesRow.veiledFits Try.checked.prog Try.f18.params.toList (Try.f18.params.toList ++ Rows.recordNamesSpec.plain.varTypes Try.checked.prog ++ Try.f18.resultTypes.toList)) = true := by kernel_rfl
set_option maxRecDepth 100000 in
theorem joined_ : joinedFacts Try.checked.prog 18 Try.f18 Rows.recordNamesSpec Rows.recordNamesRow = true := (and_t (and_t (and_t (and_t (and_t (and_t (and_t (and_t (and_t (and_t (and_t (and_t (and_t (and_t (and_t (and_t (and_t (and_t (and_t (and_t (and_t (and_t (and_t (and_t (and_t (and_t (and_t (and_t (and_t (and_t (and_t j0 j1) j2) j3) j4) j5) j6) j7) j8) j9) j10) j11) j12) j13) j14) j15) j16) j17) j18) j19) j20) j21) j22) j23) j24) j25) j26) j27) j28) j29) j30) j31)
theorem over : Rows.recordNamesRow.holds Try.pinned (OpenSpec.ofChange Rows.recordNamesSpec) :=
  OpenClaim.holds_of_wide 18 Try.f18 rfl rfl rfl rfl rfl rfl rfl ⟨rfl, rfl, rfl, rfl, rfl⟩ rfl rfl rfl rfl rfl (by kernel_rfl) Try.func18 joined_
    (of_decide_eq_true (by kernel_rfl)) (by unfold Func.isWrapper; first | (rw [if_pos (by decide +kernel)]; kernel_rfl) | (rw [if_neg (by decide +kernel)]; exact ⟨rfl, rfl⟩))
    (fun os started H enc _ => lifted os started H enc)
end Go.Proofs.Ytobanhbjkomieaa.recordNames
namespace Go.Proofs.Ytobanhbjkomieaa
theorem recordNames_holds : Rows.RecordNamesSaid := recordNames.over
#print axioms recordNames_holds
end Go.Proofs.Ytobanhbjkomieaa
