/- The law baton/batonlaw12.TreePlays of the given program: for every input the call returns true, and each argument reads behind the call as it read before. No condition. -/
import Derived.Test.YtobanhbjkomieaaRows
import Derived.Test.YtobanhbjkomieaaTCSb
import Derived.Test.YtobanhbjkomieaaVJSb
import Derived.Test.YtobanhbjkomieaaOQSb
import Derived.SizedLaws
import Derived.ChangeSlices
import Derived.WalkKit
import Derived.ProofKit
import Derived.OpenShut
import Derived.ShutString
import Derived.ChangeOld
import Derived.Below
namespace Go.Proofs.Ytobanhbjkomieaa.treePlays
open Go.ChangeShapes Go.WideShapes Go.ChangeAt Go.RowKit
open Go.ChangeMaps (open_string shut_string)
theorem own : ownKnob Try.prog.godebug = none := by kernel_rfl
theorem laidOut : laidOutB Try.prog = true := by kernel_rfl
set_option maxRecDepth 100000 in
theorem lifted (os : Os) (started : os.Started) (H : Type) (enc : TypeId × Value → H) :
    ReturnsInHanded {} Try.checked os 10 .any (Rows.treePlaysSpec.pre6 enc Try.prog Try.f10 Rows.treePlaysRow.domain false) (Rows.treePlaysSpec.post enc Try.prog Try.f10 false true false false) := by
  refine returnsInHanded_of_change_sized (C := Try.checked) own started (by kernel_rfl) Try.func10
    (ChangeSpec.witness6 (enc := enc) (C := Try.checked) false ⟨#[], #[.slice none 0 0], []⟩ 8 (by kernel_rfl) (by kernel_rfl) (by kernel_rfl) (by kernel_rfl)) ?_
  intro W base args ds gs before hval0 hW _ hsz0 _
  have hval : ∀ (j : Nat) t v, Try.f10.params[j]? = some t → args[j]? = some v → Value.okWide Try.prog W .any base t v := hval0
  have hW' := hW
  obtain ⟨p, q, hA0, hV, rfl, hfz, hnd⟩ := hW
  have hA : DataW.TrodAll enc Try.prog W 0 (fun _ => true) true Try.f10.params.toList args.toList ds p := hA0
  rw [Try.params10] at hA hval
  obtain ⟨v0, vs0, d0, ds0, p0, q0, hargs, rfl, rfl, h0, r0⟩ := trodAll_cons hA
  obtain ⟨rfl, rfl, rfl⟩ := trodAll_nil r0
  obtain rfl : args = #[v0] := by cases args; simp_all
  obtain ⟨rfl, rfl⟩ := trodVars_none hV
  have k0 := h0
  have lt0 : ∀ x ∈ p0, x.block < W.heap.size := by obtain ⟨m, hm⟩ := k0; exact DataW.trod_lt m _ _ _ hm
  obtain ⟨A0, c0, l0, rfl, hl0, hC0, ok0⟩ := OP.arg_slice (OP.opens_Acts W) Try.underlying90 (hval 0 90 v0 rfl rfl) h0
  clear hA0 hval0 hsz0
  refine (TA.TreePlays_walk A0 c0 l0 W hl0 hC0 ok0).mono fun e W' ⟨he, bel⟩ => ?_
  subst he
  exact ⟨_, rfl, _, _, _, [], _, [], hW', trodAll_mk1 (shut_bool Try.underlying4 _), (trodAll_cons_mk (Below.trod laidOut (by kernel_rfl) (of_decide_eq_true (by kernel_rfl)) k0 bel lt0) trodAll_mk0), rfl, bel.frame _, fun h => by cases h⟩
theorem and_t {a b : Bool} (h : a = true) (k : b = true) : (a && b) = true := by rw [h, k]; rfl
theorem j0 : (Rows.treePlaysRow.wf (OpenSpec.ofChange Rows.treePlaysSpec)) = true := by kernel_rfl
theorem j1 : (laidOutB Try.checked.prog) = true := JP.j1
theorem j2 : (mapsRowed Try.checked.prog) = true := JP.j2
theorem j3 : (Try.f10.params.all (Try.checked.prog.readableRec ·)) = true := by kernel_rfl
theorem j4 : (namedTie Try.checked.prog Rows.treePlaysRow.named Rows.treePlaysSpec.vars) = true := by kernel_rfl
theorem j5 : ((Rows.treePlaysRow.stops == [])) = true := by kernel_rfl
theorem j6 : ((Try.checked.prog.stops == [])) = true := by kernel_rfl
theorem j7 : ((Rows.treePlaysRow.knobs == [])) = true := by kernel_rfl
theorem j8 : ((Try.checked.prog.stopKnobs == [])) = true := by kernel_rfl
theorem j9 : ((Rows.treePlaysRow.inPlace == Try.checked.prog.inPlace 10)) = true := by kernel_rfl
theorem j10 : ((Rows.treePlaysRow.unfollowed == Try.checked.prog.unfollowed 10)) = true := by kernel_rfl
theorem j11 : ((Rows.treePlaysRow.recurses == Try.checked.prog.recurses 10)) = true := by kernel_rfl
theorem j12 : ((Rows.treePlaysRow.named == Try.checked.prog.varsNamed 10)) = true := by kernel_rfl
theorem j13 : ((Rows.treePlaysRow.maps == (Try.f10.params.toList ++ Rows.treePlaysSpec.plain.varTypes Try.checked.prog).any (Try.checked.prog.mapsRec ·))) = true := by kernel_rfl
theorem j14 : ((Rows.treePlaysRow.ifaces == (Try.f10.params.toList ++ Rows.treePlaysSpec.plain.varTypes Try.checked.prog).any (Try.checked.prog.ifacesRec ·))) = true := by kernel_rfl
theorem j15 : ((Rows.treePlaysRow.mapsOut == Try.checked.prog.mapsAmong Try.f10.resultTypes.toList)) = true := by kernel_rfl
theorem j16 : ((Rows.treePlaysRow.loops == (Try.f10.params.toList ++ Rows.treePlaysSpec.plain.varTypes Try.checked.prog).any (Try.checked.prog.loopsFrom ·))) = true := by kernel_rfl
theorem j17 : ((Rows.treePlaysRow.wideKeys == (Try.f10.params.toList ++ Rows.treePlaysSpec.plain.varTypes Try.checked.prog ++ Try.f10.resultTypes.toList).any (Try.checked.prog.wideKeysFrom ·))) = true := by kernel_rfl
theorem j18 : (Rows.treePlaysSpec.vars.all (Try.checked.prog.varReadable ·)) = true := by kernel_rfl
theorem j19 : (Try.f10.resultTypes.all (fun t => Try.checked.prog.readableRec t && decide (t < Try.checked.prog.types.size))) = true := by kernel_rfl
theorem j20 : ((Rows.treePlaysRow.ifacesOut == Try.f10.resultTypes.toList.any (Try.checked.prog.ifacesRec ·))) = true := by kernel_rfl
theorem j21 : ((Rows.treePlaysRow.loopsOut == Try.f10.resultTypes.toList.any (Try.checked.prog.loopsFrom ·))) = true := by kernel_rfl
theorem j22 : ((Rows.treePlaysRow.plainKeys == Try.checked.prog.plainKeys)) = true := JP.j22
theorem j23 : (Rows.treePlaysRow.shortTexts.isNone) = true := by kernel_rfl
theorem j24 : (Try.checked.prog.stopsHeard) = true := JP.j24
theorem j25 : (Try.checked.prog.mayEnter) = true := JP.j25
theorem j26 : ((Rows.treePlaysRow.lifted == Try.checked.prog.liftsFinal)) = true := JP.j26
theorem j27 : ((Try.checked.prog.make == some Rows.treePlaysRow.make)) = true := JP.j27
theorem j28 : ((Rows.treePlaysRow.kinds == (if Rows.treePlaysRow.domain.isEmpty then [] else Try.f10.params.toList.map fun t => match Try.checked.prog.underlying t with | some (.int k) => some k | _ => none))) = true := by kernel_rfl
theorem j29 : ((Rows.treePlaysRow.pinned == Rows.treePlaysRow.pinnedBy)) = true := by kernel_rfl
theorem j30 : ((Rows.treePlaysRow.veiled == (Try.f10.params.toList ++ Rows.treePlaysSpec.plain.varTypes Try.checked.prog ++ Try.f10.resultTypes.toList).any (Try.checked.prog.veiledRec ·))) = true := by kernel_rfl
theorem j31 : (Rows.treePlaysRow.veiledFits Try.checked.prog Try.f10.params.toList (Try.f10.params.toList ++ Rows.treePlaysSpec.plain.varTypes Try.checked.prog ++ Try.f10.resultTypes.toList)) = true := by kernel_rfl
set_option maxRecDepth 100000 in
theorem joined_ : joinedFacts Try.checked.prog 10 Try.f10 Rows.treePlaysSpec Rows.treePlaysRow = true := (and_t (and_t (and_t (and_t (and_t (and_t (and_t (and_t (and_t (and_t (and_t (and_t (and_t (and_t (and_t (and_t (and_t (and_t (and_t (and_t (and_t (and_t (and_t (and_t (and_t (and_t (and_t (and_t (and_t (and_t (and_t j0 j1) j2) j3) j4) j5) j6) j7) j8) j9) j10) j11) j12) j13) j14) j15) j16) j17) j18) j19) j20) j21) j22) j23) j24) j25) j26) j27) j28) j29) j30) j31)
theorem over : Rows.treePlaysRow.holds Try.pinned (OpenSpec.ofChange Rows.treePlaysSpec) :=
  OpenClaim.holds_of_wide 10 Try.f10 rfl rfl rfl rfl rfl rfl rfl ⟨rfl, rfl, rfl, rfl, rfl⟩ rfl rfl rfl rfl rfl (by kernel_rfl) Try.func10 joined_
    (of_decide_eq_true (by kernel_rfl)) (by unfold Func.isWrapper; first | (rw [if_pos (by decide +kernel)]; kernel_rfl) | (rw [if_neg (by decide +kernel)]; exact ⟨rfl, rfl⟩))
    (fun os started H enc _ => lifted os started H enc)
end Go.Proofs.Ytobanhbjkomieaa.treePlays
namespace Go.Proofs.Ytobanhbjkomieaa
theorem treePlays_holds : Rows.TreePlaysSaid := treePlays.over
#print axioms treePlays_holds
end Go.Proofs.Ytobanhbjkomieaa
