/- The law baton/batonlaw12.TreeConds of the given program: for every input the call returns true, and each argument reads behind the call as it read before. No condition. -/
import Derived.Test.YtobanhbjkomieaaRows
import Derived.Test.YtobanhbjkomieaaTCSb
import Derived.Test.YtobanhbjkomieaaUISb
import Derived.Test.YtobanhbjkomieaaOQSb
import Derived.SizedLaws
import Derived.ChangeSlices
import Derived.WalkKit
import Derived.ProofKit
import Derived.OpenShut
import Derived.ShutString
import Derived.ChangeOld
import Derived.Below
namespace Go.Proofs.Ytobanhbjkomieaa.treeConds
open Go.ChangeShapes Go.WideShapes Go.ChangeAt Go.RowKit
open Go.ChangeMaps (open_string shut_string)
theorem own : ownKnob Try.prog.godebug = none := by kernel_rfl
theorem laidOut : laidOutB Try.prog = true := by kernel_rfl
set_option maxRecDepth 100000 in
theorem lifted (os : Os) (started : os.Started) (H : Type) (enc : TypeId × Value → H) :
    ReturnsInHanded {} Try.checked os 6 .any (Rows.treeCondsSpec.pre6 enc Try.prog Try.f6 Rows.treeCondsRow.domain false) (Rows.treeCondsSpec.post enc Try.prog Try.f6 false true false false) := by
  refine returnsInHanded_of_change_sized (C := Try.checked) own started (by kernel_rfl) Try.func6
    (ChangeSpec.witness6 (enc := enc) (C := Try.checked) false ⟨#[], #[.slice none 0 0, .slice none 0 0, .int .i64 0, .int .i64 0], []⟩ 8 (by kernel_rfl) (by kernel_rfl) (by kernel_rfl) (by kernel_rfl)) ?_
  intro W base args ds gs before hval0 hW _ hsz0 _
  have hval : ∀ (j : Nat) t v, Try.f6.params[j]? = some t → args[j]? = some v → Value.okWide Try.prog W .any base t v := hval0
  have hW' := hW
  obtain ⟨p, q, hA0, hV, rfl, hfz, hnd⟩ := hW
  have hA : DataW.TrodAll enc Try.prog W 0 (fun _ => true) true Try.f6.params.toList args.toList ds p := hA0
  rw [Try.params6] at hA hval
  obtain ⟨v0, vs0, d0, ds0, p0, q0, hargs, rfl, rfl, h0, r0⟩ := trodAll_cons hA
  obtain ⟨v1, vs1, d1, ds1, p1, q1, rfl, rfl, rfl, h1, r1⟩ := trodAll_cons r0
  obtain ⟨v2, vs2, d2, ds2, p2, q2, rfl, rfl, rfl, h2, r2⟩ := trodAll_cons r1
  obtain ⟨v3, vs3, d3, ds3, p3, q3, rfl, rfl, rfl, h3, r3⟩ := trodAll_cons r2
  obtain ⟨rfl, rfl, rfl⟩ := trodAll_nil r3
  obtain rfl : args = #[v0, v1, v2, v3] := by cases args; simp_all
  obtain ⟨rfl, rfl⟩ := trodVars_none hV
  have k0 := h0
  have lt0 : ∀ x ∈ p0, x.block < W.heap.size := by obtain ⟨m, hm⟩ := k0; exact DataW.trod_lt m _ _ _ hm
  obtain ⟨A0, c0, l0, rfl, hl0, hC0, ok0⟩ := OP.arg_slice (OP.opens_Txns W) Try.underlying47 (hval 0 47 v0 rfl rfl) h0
  have k1 := h1
  have lt1 : ∀ x ∈ p1, x.block < W.heap.size := by obtain ⟨m, hm⟩ := k1; exact DataW.trod_lt m _ _ _ hm
  obtain ⟨A1, c1, l1, rfl, hl1, hC1, ok1⟩ := OP.arg_slice (OP.opens_StringsT W) Try.underlying70 (hval 1 70 v1 rfl rfl) h1
  obtain ⟨a2, rfl, rfl, rfl, w2⟩ := open_int Try.underlying3 (hval 2 3 v2 rfl rfl) h2
  obtain ⟨a3, rfl, rfl, rfl, w3⟩ := open_int Try.underlying2 (hval 3 2 v3 rfl rfl) h3
  clear hA0 hval0 hsz0
  refine (TA.TreeConds_walk A0 c0 l0 A1 c1 l1 a2 a3 W hl0 hC0 ok0 hl1 hC1 ok1 w2 w3).mono fun e W' ⟨he, bel⟩ => ?_
  subst he
  exact ⟨_, rfl, _, _, _, [], _, [], hW', trodAll_mk1 (shut_bool Try.underlying4 _), (trodAll_cons_mk (Below.trod laidOut (by kernel_rfl) (of_decide_eq_true (by kernel_rfl)) k0 bel lt0) (trodAll_cons_mk (Below.trod laidOut (by kernel_rfl) (of_decide_eq_true (by kernel_rfl)) k1 bel lt1) (trodAll_cons_mk (shut_int Try.underlying3 w2) (trodAll_cons_mk (shut_int Try.underlying2 w3) trodAll_mk0)))), rfl, bel.frame _, fun h => by cases h⟩
theorem and_t {a b : Bool} (h : a = true) (k : b = true) : (a && b) = true := by rw [h, k]; rfl
theorem j0 : (Rows.treeCondsRow.wf (OpenSpec.ofChange Rows.treeCondsSpec)) = true := by kernel_rfl
theorem j1 : (laidOutB Try.checked.prog) = true := JP.j1
theorem j2 : (mapsRowed Try.checked.prog) = true := JP.j2
theorem j3 : (Try.f6.params.all (Try.checked.prog.readableRec ·)) = true := by kernel_rfl
theorem j4 : (namedTie Try.checked.prog Rows.treeCondsRow.named Rows.treeCondsSpec.vars) = true := by kernel_rfl
theorem j5 : ((Rows.treeCondsRow.stops == [])) = true := by kernel_rfl
theorem j6 : ((Try.checked.prog.stops == [])) = true := by kernel_rfl
theorem j7 : ((Rows.treeCondsRow.knobs == [])) = true := by kernel_rfl
theorem j8 : ((Try.checked.prog.stopKnobs == [])) = true := by kernel_rfl
theorem j9 : ((Rows.treeCondsRow.inPlace == Try.checked.prog.inPlace 6)) = true := by kernel_rfl
theorem j10 : ((Rows.treeCondsRow.unfollowed == Try.checked.prog.unfollowed 6)) = true := by kernel_rfl
theorem j11 : ((Rows.treeCondsRow.recurses == Try.checked.prog.recurses 6)) = true := by kernel_rfl
theorem j12 : ((Rows.treeCondsRow.named == Try.checked.prog.varsNamed 6)) = true := by kernel_rfl
theorem j13 : ((Rows.treeCondsRow.maps == (Try.f6.params.toList ++ Rows.treeCondsSpec.plain.varTypes Try.checked.prog).any (Try.checked.prog.mapsRec ·))) = true := by kernel_rfl
theorem j14 : ((Rows.treeCondsRow.ifaces == (Try.f6.params.toList ++ Rows.treeCondsSpec.plain.varTypes Try.checked.prog).any (Try.checked.prog.ifacesRec ·))) = true := by kernel_rfl
theorem j15 : ((Rows.treeCondsRow.mapsOut == Try.checked.prog.mapsAmong Try.f6.resultTypes.toList)) = true := by kernel_rfl
theorem j16 : ((Rows.treeCondsRow.loops == (Try.f6.params.toList ++ Rows.treeCondsSpec.plain.varTypes Try.checked.prog).any (Try.checked.prog.loopsFrom ·))) = true := by kernel_rfl
theorem j17 : ((Rows.treeCondsRow.wideKeys == (Try.f6.params.toList ++ Rows.treeCondsSpec.plain.varTypes Try.checked.prog ++ Try.f6.resultTypes.toList).any (Try.checked.prog.wideKeysFrom ·))) = true := by kernel_rfl
theorem j18 : (Rows.treeCondsSpec.vars.all (Try.checked.prog.varReadable ·)) = true := by kernel_rfl
theorem j19 : (Try.f6.resultTypes.all (fun t => Try.checked.prog.readableRec t && decide (t < Try.checked.prog.types.size))) = true := by kernel_rfl
theorem j20 : ((Rows.treeCondsRow.ifacesOut == Try.f6.resultTypes.toList.any (Try.checked.prog.ifacesRec ·))) = true := by kernel_rfl
theorem j21 : ((Rows.treeCondsRow.loopsOut == Try.f6.resultTypes.toList.any (Try.checked.prog.loopsFrom ·))) = true := by kernel_rfl
theorem j22 : ((Rows.treeCondsRow.plainKeys == Try.checked.prog.plainKeys)) = true := JP.j22
theorem j23 : (Rows.treeCondsRow.shortTexts.isNone) = true := by kernel_rfl
theorem j24 : (Try.checked.prog.stopsHeard) = true := JP.j24
theorem j25 : (Try.checked.prog.mayEnter) = true := JP.j25
theorem j26 : ((Rows.treeCondsRow.lifted == Try.checked.prog.liftsFinal)) = true := JP.j26
theorem j27 : ((Try.checked.prog.make == some Rows.treeCondsRow.make)) = true := JP.j27
theorem j28 : ((Rows.treeCondsRow.kinds == (if Rows.treeCondsRow.domain.isEmpty then [] else Try.f6.params.toList.map fun t => match Try.checked.prog.underlying t with | some (.int k) => some k | _ => none))) = true := by kernel_rfl
theorem j29 : ((Rows.treeCondsRow.pinned == Rows.treeCondsRow.pinnedBy)) = true := by kernel_rfl
theorem j30 : ((Rows.treeCondsRow.veiled == (Try.f6.params.toList ++ Rows.treeCondsSpec.plain.varTypes Try.checked.prog ++ Try.f6.resultTypes.toList).any (Try.checked.prog.veiledRec ·))) = true := by kernel_rfl
theorem j31 : (Rows.treeCondsRow.veiledFits Try.checked.prog Try.f6.params.toList (Try.f6.params.toList ++ Rows.treeCondsSpec.plain.varTypes Try.checked.prog ++ Try.f6.resultTypes.toList)) = true := by kernel_rfl
set_option maxRecDepth 100000 in
theorem joined_ : joinedFacts Try.checked.prog 6 Try.f6 Rows.treeCondsSpec Rows.treeCondsRow = true := (and_t (and_t (and_t (and_t (and_t (and_t (and_t (and_t (and_t (and_t (and_t (and_t (and_t (and_t (and_t (and_t (and_t (and_t (and_t (and_t (and_t (and_t (and_t (and_t (and_t (and_t (and_t (and_t (and_t (and_t (and_t j0 j1) j2) j3) j4) j5) j6) j7) j8) j9) j10) j11) j12) j13) j14) j15) j16) j17) j18) j19) j20) j21) j22) j23) j24) j25) j26) j27) j28) j29) j30) j31)
theorem over : Rows.treeCondsRow.holds Try.pinned (OpenSpec.ofChange Rows.treeCondsSpec) :=
  OpenClaim.holds_of_wide 6 Try.f6 rfl rfl rfl rfl rfl rfl rfl ⟨rfl, rfl, rfl, rfl, rfl⟩ rfl rfl rfl rfl rfl (by kernel_rfl) Try.func6 joined_
    (of_decide_eq_true (by kernel_rfl)) (by unfold Func.isWrapper; first | (rw [if_pos (by decide +kernel)]; kernel_rfl) | (rw [if_neg (by decide +kernel)]; exact ⟨rfl, rfl⟩))
    (fun os started H enc _ => lifted os started H enc)
end Go.Proofs.Ytobanhbjkomieaa.treeConds
namespace Go.Proofs.Ytobanhbjkomieaa
theorem treeConds_holds : Rows.TreeCondsSaid := treeConds.over
#print axioms treeConds_holds
end Go.Proofs.Ytobanhbjkomieaa
