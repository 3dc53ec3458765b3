/- The law baton/batonlaw12.TreeRises of the given program: for every input the call returns true, and each argument reads behind the call as it read before. No condition. -/
import Derived.Test.YtobanhbjkomieaaRows
import Derived.Test.YtobanhbjkomieaaTCSb
import Derived.Test.YtobanhbjkomieaaUHSb
import Derived.Test.YtobanhbjkomieaaOQSb
import Derived.SizedLaws
import Derived.ChangeSlices
import Derived.WalkKit
import Derived.ProofKit
import Derived.OpenShut
import Derived.ShutString
import Derived.ChangeOld
import Derived.Below
namespace Go.Proofs.Ytobanhbjkomieaa.treeRises
open Go.ChangeShapes Go.WideShapes Go.ChangeAt Go.RowKit
open Go.ChangeMaps (open_string shut_string)
theorem own : ownKnob Try.prog.godebug = none := by kernel_rfl
theorem laidOut : laidOutB Try.prog = true := by kernel_rfl
set_option maxRecDepth 100000 in
theorem lifted (os : Os) (started : os.Started) (H : Type) (enc : TypeId × Value → H) :
    ReturnsInHanded {} Try.checked os 8 .any (Rows.treeRisesSpec.pre6 enc Try.prog Try.f8 Rows.treeRisesRow.domain false) (Rows.treeRisesSpec.post enc Try.prog Try.f8 false true false false) := by
  refine returnsInHanded_of_change_sized (C := Try.checked) own started (by kernel_rfl) Try.func8
    (ChangeSpec.witness6 (enc := enc) (C := Try.checked) false ⟨#[], #[.slice none 0 0, .agg #[.slice none 0 0, .slice none 0 0]], []⟩ 8 (by kernel_rfl) (by kernel_rfl) (by kernel_rfl) (by kernel_rfl)) ?_
  intro W base args ds gs before hval0 hW _ hsz0 _
  have hval : ∀ (j : Nat) t v, Try.f8.params[j]? = some t → args[j]? = some v → Value.okWide Try.prog W .any base t v := hval0
  have hW' := hW
  obtain ⟨p, q, hA0, hV, rfl, hfz, hnd⟩ := hW
  have hA : DataW.TrodAll enc Try.prog W 0 (fun _ => true) true Try.f8.params.toList args.toList ds p := hA0
  rw [Try.params8] at hA hval
  obtain ⟨v0, vs0, d0, ds0, p0, q0, hargs, rfl, rfl, h0, r0⟩ := trodAll_cons hA
  obtain ⟨v1, vs1, d1, ds1, p1, q1, rfl, rfl, rfl, h1, r1⟩ := trodAll_cons r0
  obtain ⟨rfl, rfl, rfl⟩ := trodAll_nil r1
  obtain rfl : args = #[v0, v1] := by cases args; simp_all
  obtain ⟨rfl, rfl⟩ := trodVars_none hV
  have k0 := h0
  have lt0 : ∀ x ∈ p0, x.block < W.heap.size := by obtain ⟨m, hm⟩ := k0; exact DataW.trod_lt m _ _ _ hm
  obtain ⟨A0, c0, l0, rfl, hl0, hC0, ok0⟩ := OP.arg_slice (OP.opens_Txns W) Try.underlying47 (hval 0 47 v0 rfl rfl) h0
  have k1 := h1
  have lt1 : ∀ x ∈ p1, x.block < W.heap.size := by obtain ⟨m, hm⟩ := k1; exact DataW.trod_lt m _ _ _ hm
  obtain ⟨cs1, x1, rfl, hK1, ok1⟩ := OP.arg_struct (OP.opens_Txn W) Try.underlying34 (hval 1 34 v1 rfl rfl) h1
  clear hA0 hval0 hsz0
  refine (TA.TreeRises_walk A0 c0 l0 cs1 x1 W hl0 hC0 ok0 hK1 ok1).mono fun e W' ⟨he, bel⟩ => ?_
  subst he
  exact ⟨_, rfl, _, _, _, [], _, [], hW', trodAll_mk1 (shut_bool Try.underlying4 _), (trodAll_cons_mk (Below.trod laidOut (by kernel_rfl) (of_decide_eq_true (by kernel_rfl)) k0 bel lt0) (trodAll_cons_mk (Below.trod laidOut (by kernel_rfl) (of_decide_eq_true (by kernel_rfl)) k1 bel lt1) trodAll_mk0)), rfl, bel.frame _, fun h => by cases h⟩
theorem and_t {a b : Bool} (h : a = true) (k : b = true) : (a && b) = true := by rw [h, k]; rfl
theorem j0 : (Rows.treeRisesRow.wf (OpenSpec.ofChange Rows.treeRisesSpec)) = true := by kernel_rfl
theorem j1 : (laidOutB Try.checked.prog) = true := JP.j1
theorem j2 : (mapsRowed Try.checked.prog) = true := JP.j2
theorem j3 : (Try.f8.params.all (Try.checked.prog.readableRec ·)) = true := by kernel_rfl
theorem j4 : (namedTie Try.checked.prog Rows.treeRisesRow.named Rows.treeRisesSpec.vars) = true := by kernel_rfl
theorem j5 : ((Rows.treeRisesRow.stops == [])) = true := by kernel_rfl
theorem j6 : ((Try.checked.prog.stops == [])) = true := by kernel_rfl
theorem j7 : ((Rows.treeRisesRow.knobs == [])) = true := by kernel_rfl
theorem j8 : ((Try.checked.prog.stopKnobs == [])) = true := by kernel_rfl
theorem j9 : ((Rows.treeRisesRow.inPlace == Try.checked.prog.inPlace 8)) = true := by kernel_rfl
theorem j10 : ((Rows.treeRisesRow.unfollowed == Try.checked.prog.unfollowed 8)) = true := by kernel_rfl
theorem j11 : ((Rows.treeRisesRow.recurses == Try.checked.prog.recurses 8)) = true := by kernel_rfl
theorem j12 : ((Rows.treeRisesRow.named == Try.checked.prog.varsNamed 8)) = true := by kernel_rfl
theorem j13 : ((Rows.treeRisesRow.maps == (Try.f8.params.toList ++ Rows.treeRisesSpec.plain.varTypes Try.checked.prog).any (Try.checked.prog.mapsRec ·))) = true := by kernel_rfl
theorem j14 : ((Rows.treeRisesRow.ifaces == (Try.f8.params.toList ++ Rows.treeRisesSpec.plain.varTypes Try.checked.prog).any (Try.checked.prog.ifacesRec ·))) = true := by kernel_rfl
theorem j15 : ((Rows.treeRisesRow.mapsOut == Try.checked.prog.mapsAmong Try.f8.resultTypes.toList)) = true := by kernel_rfl
theorem j16 : ((Rows.treeRisesRow.loops == (Try.f8.params.toList ++ Rows.treeRisesSpec.plain.varTypes Try.checked.prog).any (Try.checked.prog.loopsFrom ·))) = true := by kernel_rfl
theorem j17 : ((Rows.treeRisesRow.wideKeys == (Try.f8.params.toList ++ Rows.treeRisesSpec.plain.varTypes Try.checked.prog ++ Try.f8.resultTypes.toList).any (Try.checked.prog.wideKeysFrom ·))) = true := by kernel_rfl
theorem j18 : (Rows.treeRisesSpec.vars.all (Try.checked.prog.varReadable ·)) = true := by kernel_rfl
theorem j19 : (Try.f8.resultTypes.all (fun t => Try.checked.prog.readableRec t && decide (t < Try.checked.prog.types.size))) = true := by kernel_rfl
theorem j20 : ((Rows.treeRisesRow.ifacesOut == Try.f8.resultTypes.toList.any (Try.checked.prog.ifacesRec ·))) = true := by kernel_rfl
theorem j21 : ((Rows.treeRisesRow.loopsOut == Try.f8.resultTypes.toList.any (Try.checked.prog.loopsFrom ·))) = true := by kernel_rfl
theorem j22 : ((Rows.treeRisesRow.plainKeys == Try.checked.prog.plainKeys)) = true := JP.j22
theorem j23 : (Rows.treeRisesRow.shortTexts.isNone) = true := by kernel_rfl
theorem j24 : (Try.checked.prog.stopsHeard) = true := JP.j24
theorem j25 : (Try.checked.prog.mayEnter) = true := JP.j25
theorem j26 : ((Rows.treeRisesRow.lifted == Try.checked.prog.liftsFinal)) = true := JP.j26
theorem j27 : ((Try.checked.prog.make == some Rows.treeRisesRow.make)) = true := JP.j27
theorem j28 : ((Rows.treeRisesRow.kinds == (if Rows.treeRisesRow.domain.isEmpty then [] else Try.f8.params.toList.map fun t => match Try.checked.prog.underlying t with | some (.int k) => some k | _ => none))) = true := by kernel_rfl
theorem j29 : ((Rows.treeRisesRow.pinned == Rows.treeRisesRow.pinnedBy)) = true := by kernel_rfl
theorem j30 : ((Rows.treeRisesRow.veiled == (Try.f8.params.toList ++ Rows.treeRisesSpec.plain.varTypes Try.checked.prog ++ Try.f8.resultTypes.toList).any (Try.checked.prog.veiledRec ·))) = true := by kernel_rfl
theorem j31 : (Rows.treeRisesRow.veiledFits Try.checked.prog Try.f8.params.toList (Try.f8.params.toList ++ Rows.treeRisesSpec.plain.varTypes Try.checked.prog ++ Try.f8.resultTypes.toList)) = true := by kernel_rfl
set_option maxRecDepth 100000 in
theorem joined_ : joinedFacts Try.checked.prog 8 Try.f8 Rows.treeRisesSpec Rows.treeRisesRow = true := (and_t (and_t (and_t (and_t (and_t (and_t (and_t (and_t (and_t (and_t (and_t (and_t (and_t (and_t (and_t (and_t (and_t (and_t (and_t (and_t (and_t (and_t (and_t (and_t (and_t (and_t (and_t (and_t (and_t (and_t (and_t j0 j1) j2) j3) j4) j5) j6) j7) j8) j9) j10) j11) j12) j13) j14) j15) j16) j17) j18) j19) j20) j21) j22) j23) j24) j25) j26) j27) j28) j29) j30) j31)
theorem over : Rows.treeRisesRow.holds Try.pinned (OpenSpec.ofChange Rows.treeRisesSpec) :=
  OpenClaim.holds_of_wide 8 Try.f8 rfl rfl rfl rfl rfl rfl rfl ⟨rfl, rfl, rfl, rfl, rfl⟩ rfl rfl rfl rfl rfl (by kernel_rfl) Try.func8 joined_
    (of_decide_eq_true (by kernel_rfl)) (by unfold Func.isWrapper; first | (rw [if_pos (by decide +kernel)]; kernel_rfl) | (rw [if_neg (by decide +kernel)]; exact ⟨rfl, rfl⟩))
    (fun os started H enc _ => lifted os started H enc)
end Go.Proofs.Ytobanhbjkomieaa.treeRises
namespace Go.Proofs.Ytobanhbjkomieaa
theorem treeRises_holds : Rows.TreeRisesSaid := treeRises.over
#print axioms treeRises_holds
end Go.Proofs.Ytobanhbjkomieaa
