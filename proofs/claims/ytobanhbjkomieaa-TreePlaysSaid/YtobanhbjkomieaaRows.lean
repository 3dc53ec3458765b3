/-
  No cell of these rows narrows 'for every input' (looked for: loops, veiled, ifaces, maps, wideKeys, modest, calm, conditions, laid).
  DERIVED. THE GIVEN ROWS OF THIS SEAT. 20 by the template 'for every input the law returns true; each argument reads behind the call as it read before'; 0 by the template 'total and deterministic' (their statements: YtobanhbjkomieaaTotals.lean).
  GIVEN WITH THE SEED: the statements are not yours to turn. If you find one false, say at which input.
  Laid BY PROGRAM, IN A SANDBOX (cutbox-rows.mjs): the forced cells as the released guide's own fill.sh prints them over the translation 5b181962a6da7a95… (all of the seat's roots in one cut). By AI agents, Wed Nov 11 2026. No macro, syntax, notation, axiom, sorry.
-/
import Derived.Test.YtobanhbjkomieaaChecked
import GoSem.Claim
import GoSem.ClaimJoined
import GoSem.ClaimMapViews
import Derived.JoinedTies
import Derived.KernelRfl
namespace Go.Proofs.Ytobanhbjkomieaa
/- THE CELL 'sum', in the pinned program and in every row, IS THE sha256 OF THE DUMP (.gsa) THAT YtobanhbjkomieaaProg.lean LOADS. Nothing in Lean hashes anything: it is a label: what it is worth is what the hold of that sum in a sandbox is worth. -/
noncomputable def Try.pinned : Pinned := { name := "ytobanhbjkomieaa", sum := "5b181962a6da7a952c09fb2d52e22de505cb4b5ec1c6e83d4733c9a25dfaba62", checked := Try.checked }
namespace Rows
def none {H : Type} : Left H := { results := [], args := [] }

/-- 'batonlaw20.ElectPlans': WHATEVER THE INPUT: true; the input reads as it did. -/
def electPlansSpec : ChangeSpec := { name := "electPlans", fn := fun _ => fun
  | [d1, d2, d3, d4, d5, d6] => { results := [.lit (.bool true)], args := [d1, d2, d3, d4, d5, d6] }
  | _ => none }
def electPlansRow : OpenClaim := { program := "ytobanhbjkomieaa", sum := "5b181962a6da7a952c09fb2d52e22de505cb4b5ec1c6e83d4733c9a25dfaba62", func := "baton/batonlaw20.ElectPlans", spec := "electPlans", unfollowed := true, recurses := true, apart := false }
def ElectPlansSaid : Prop := electPlansRow.holds Try.pinned (OpenSpec.ofChange electPlansSpec)

/-- ITS FALSE NEIGHBOUR: 'it returns false'. Refute it at one input. -/
def electPlansWrong : ChangeSpec := { name := "electPlans", fn := fun _ => fun
  | [d1, d2, d3, d4, d5, d6] => { results := [.lit (.bool false)], args := [d1, d2, d3, d4, d5, d6] }
  | _ => none }
def ElectPlansWrongFalsely : Prop := electPlansRow.holds Try.pinned (OpenSpec.ofChange electPlansWrong)

/-- 'batonlaw12.TreeEvents': WHATEVER THE INPUT: true; the input reads as it did. -/
def treeEventsSpec : ChangeSpec := { name := "treeEvents", fn := fun _ => fun
  | [d1, d2] => { results := [.lit (.bool true)], args := [d1, d2] }
  | _ => none }
def treeEventsRow : OpenClaim := { program := "ytobanhbjkomieaa", sum := "5b181962a6da7a952c09fb2d52e22de505cb4b5ec1c6e83d4733c9a25dfaba62", func := "baton/batonlaw12.TreeEvents", spec := "treeEvents", unfollowed := true, recurses := true, apart := false }
def TreeEventsSaid : Prop := treeEventsRow.holds Try.pinned (OpenSpec.ofChange treeEventsSpec)

/-- ITS FALSE NEIGHBOUR: 'it returns false'. Refute it at one input. -/
def treeEventsWrong : ChangeSpec := { name := "treeEvents", fn := fun _ => fun
  | [d1, d2] => { results := [.lit (.bool false)], args := [d1, d2] }
  | _ => none }
def TreeEventsWrongFalsely : Prop := treeEventsRow.holds Try.pinned (OpenSpec.ofChange treeEventsWrong)

/-- 'batonlaw12.TreeLists': WHATEVER THE INPUT: true; the input reads as it did. -/
def treeListsSpec : ChangeSpec := { name := "treeLists", fn := fun _ => fun
  | [d1, d2] => { results := [.lit (.bool true)], args := [d1, d2] }
  | _ => none }
def treeListsRow : OpenClaim := { program := "ytobanhbjkomieaa", sum := "5b181962a6da7a952c09fb2d52e22de505cb4b5ec1c6e83d4733c9a25dfaba62", func := "baton/batonlaw12.TreeLists", spec := "treeLists", unfollowed := true, recurses := true, apart := false }
def TreeListsSaid : Prop := treeListsRow.holds Try.pinned (OpenSpec.ofChange treeListsSpec)

/-- ITS FALSE NEIGHBOUR: 'it returns false'. Refute it at one input. -/
def treeListsWrong : ChangeSpec := { name := "treeLists", fn := fun _ => fun
  | [d1, d2] => { results := [.lit (.bool false)], args := [d1, d2] }
  | _ => none }
def TreeListsWrongFalsely : Prop := treeListsRow.holds Try.pinned (OpenSpec.ofChange treeListsWrong)

/-- 'batonlaw12.TreeConds': WHATEVER THE INPUT: true; the input reads as it did. -/
def treeCondsSpec : ChangeSpec := { name := "treeConds", fn := fun _ => fun
  | [d1, d2, d3, d4] => { results := [.lit (.bool true)], args := [d1, d2, d3, d4] }
  | _ => none }
def treeCondsRow : OpenClaim := { program := "ytobanhbjkomieaa", sum := "5b181962a6da7a952c09fb2d52e22de505cb4b5ec1c6e83d4733c9a25dfaba62", func := "baton/batonlaw12.TreeConds", spec := "treeConds", unfollowed := true, recurses := true, apart := false }
def TreeCondsSaid : Prop := treeCondsRow.holds Try.pinned (OpenSpec.ofChange treeCondsSpec)

/-- ITS FALSE NEIGHBOUR: 'it returns false'. Refute it at one input. -/
def treeCondsWrong : ChangeSpec := { name := "treeConds", fn := fun _ => fun
  | [d1, d2, d3, d4] => { results := [.lit (.bool false)], args := [d1, d2, d3, d4] }
  | _ => none }
def TreeCondsWrongFalsely : Prop := treeCondsRow.holds Try.pinned (OpenSpec.ofChange treeCondsWrong)

/-- 'batonlaw12.TreeApart': WHATEVER THE INPUT: true; the input reads as it did. -/
def treeApartSpec : ChangeSpec := { name := "treeApart", fn := fun _ => fun
  | [d1, d2] => { results := [.lit (.bool true)], args := [d1, d2] }
  | _ => none }
def treeApartRow : OpenClaim := { program := "ytobanhbjkomieaa", sum := "5b181962a6da7a952c09fb2d52e22de505cb4b5ec1c6e83d4733c9a25dfaba62", func := "baton/batonlaw12.TreeApart", spec := "treeApart", unfollowed := true, recurses := true, apart := false }
def TreeApartSaid : Prop := treeApartRow.holds Try.pinned (OpenSpec.ofChange treeApartSpec)

/-- ITS FALSE NEIGHBOUR: 'it returns false'. Refute it at one input. -/
def treeApartWrong : ChangeSpec := { name := "treeApart", fn := fun _ => fun
  | [d1, d2] => { results := [.lit (.bool false)], args := [d1, d2] }
  | _ => none }
def TreeApartWrongFalsely : Prop := treeApartRow.holds Try.pinned (OpenSpec.ofChange treeApartWrong)

/-- 'batonlaw12.TreeRises': WHATEVER THE INPUT: true; the input reads as it did. -/
def treeRisesSpec : ChangeSpec := { name := "treeRises", fn := fun _ => fun
  | [d1, d2] => { results := [.lit (.bool true)], args := [d1, d2] }
  | _ => none }
def treeRisesRow : OpenClaim := { program := "ytobanhbjkomieaa", sum := "5b181962a6da7a952c09fb2d52e22de505cb4b5ec1c6e83d4733c9a25dfaba62", func := "baton/batonlaw12.TreeRises", spec := "treeRises", unfollowed := true, recurses := true, apart := false }
def TreeRisesSaid : Prop := treeRisesRow.holds Try.pinned (OpenSpec.ofChange treeRisesSpec)

/-- ITS FALSE NEIGHBOUR: 'it returns false'. Refute it at one input. -/
def treeRisesWrong : ChangeSpec := { name := "treeRises", fn := fun _ => fun
  | [d1, d2] => { results := [.lit (.bool false)], args := [d1, d2] }
  | _ => none }
def TreeRisesWrongFalsely : Prop := treeRisesRow.holds Try.pinned (OpenSpec.ofChange treeRisesWrong)

/-- 'batonlaw12.TreeCut': WHATEVER THE INPUT: true; the input reads as it did. -/
def treeCutSpec : ChangeSpec := { name := "treeCut", fn := fun _ => fun
  | [d1, d2, d3] => { results := [.lit (.bool true)], args := [d1, d2, d3] }
  | _ => none }
def treeCutRow : OpenClaim := { program := "ytobanhbjkomieaa", sum := "5b181962a6da7a952c09fb2d52e22de505cb4b5ec1c6e83d4733c9a25dfaba62", func := "baton/batonlaw12.TreeCut", spec := "treeCut", unfollowed := true, recurses := true, apart := false }
def TreeCutSaid : Prop := treeCutRow.holds Try.pinned (OpenSpec.ofChange treeCutSpec)

/-- ITS FALSE NEIGHBOUR: 'it returns false'. Refute it at one input. -/
def treeCutWrong : ChangeSpec := { name := "treeCut", fn := fun _ => fun
  | [d1, d2, d3] => { results := [.lit (.bool false)], args := [d1, d2, d3] }
  | _ => none }
def TreeCutWrongFalsely : Prop := treeCutRow.holds Try.pinned (OpenSpec.ofChange treeCutWrong)

/-- 'batonlaw12.TreePlays': WHATEVER THE INPUT: true; the input reads as it did. -/
def treePlaysSpec : ChangeSpec := { name := "treePlays", fn := fun _ => fun
  | [d] => { results := [.lit (.bool true)], args := [d] }
  | _ => none }
def treePlaysRow : OpenClaim := { program := "ytobanhbjkomieaa", sum := "5b181962a6da7a952c09fb2d52e22de505cb4b5ec1c6e83d4733c9a25dfaba62", func := "baton/batonlaw12.TreePlays", spec := "treePlays", unfollowed := true, recurses := true, apart := false }
def TreePlaysSaid : Prop := treePlaysRow.holds Try.pinned (OpenSpec.ofChange treePlaysSpec)

/-- ITS FALSE NEIGHBOUR: 'it returns false'. Refute it at one input. -/
def treePlaysWrong : ChangeSpec := { name := "treePlays", fn := fun _ => fun
  | [d] => { results := [.lit (.bool false)], args := [d] }
  | _ => none }
def TreePlaysWrongFalsely : Prop := treePlaysRow.holds Try.pinned (OpenSpec.ofChange treePlaysWrong)

/-- 'batonlaw12.TreeOf': WHATEVER THE INPUT: true; the input reads as it did. -/
def treeOfSpec : ChangeSpec := { name := "treeOf", fn := fun _ => fun
  | [d1, d2, d3, d4, d5] => { results := [.lit (.bool true)], args := [d1, d2, d3, d4, d5] }
  | _ => none }
def treeOfRow : OpenClaim := { program := "ytobanhbjkomieaa", sum := "5b181962a6da7a952c09fb2d52e22de505cb4b5ec1c6e83d4733c9a25dfaba62", func := "baton/batonlaw12.TreeOf", spec := "treeOf", unfollowed := true, recurses := true, apart := false }
def TreeOfSaid : Prop := treeOfRow.holds Try.pinned (OpenSpec.ofChange treeOfSpec)

/-- ITS FALSE NEIGHBOUR: 'it returns false'. Refute it at one input. -/
def treeOfWrong : ChangeSpec := { name := "treeOf", fn := fun _ => fun
  | [d1, d2, d3, d4, d5] => { results := [.lit (.bool false)], args := [d1, d2, d3, d4, d5] }
  | _ => none }
def TreeOfWrongFalsely : Prop := treeOfRow.holds Try.pinned (OpenSpec.ofChange treeOfWrong)

/-- 'batonlaw12.TreeNames': WHATEVER THE INPUT: true; the input reads as it did. -/
def treeNamesSpec : ChangeSpec := { name := "treeNames", fn := fun _ => fun
  | [] => { results := [.lit (.bool true)], args := [] }
  | _ => none }
def treeNamesRow : OpenClaim := { program := "ytobanhbjkomieaa", sum := "5b181962a6da7a952c09fb2d52e22de505cb4b5ec1c6e83d4733c9a25dfaba62", func := "baton/batonlaw12.TreeNames", spec := "treeNames", unfollowed := true, recurses := true, apart := false }
def TreeNamesSaid : Prop := treeNamesRow.holds Try.pinned (OpenSpec.ofChange treeNamesSpec)

/-- ITS FALSE NEIGHBOUR: 'it returns false'. Refute it at one input. -/
def treeNamesWrong : ChangeSpec := { name := "treeNames", fn := fun _ => fun
  | [] => { results := [.lit (.bool false)], args := [] }
  | _ => none }
def TreeNamesWrongFalsely : Prop := treeNamesRow.holds Try.pinned (OpenSpec.ofChange treeNamesWrong)

/-- 'batonlaw18.RecordReads': WHATEVER THE INPUT: true; the input reads as it did. -/
def recordReadsSpec : ChangeSpec := { name := "recordReads", fn := fun _ => fun
  | [d1, d2] => { results := [.lit (.bool true)], args := [d1, d2] }
  | _ => none }
def recordReadsRow : OpenClaim := { program := "ytobanhbjkomieaa", sum := "5b181962a6da7a952c09fb2d52e22de505cb4b5ec1c6e83d4733c9a25dfaba62", func := "baton/batonlaw18.RecordReads", spec := "recordReads", inPlace := ["internal/bytealg.IndexByteString", "internal/bytealg.IndexString"], unfollowed := true, recurses := true, named := ["internal/bytealg.MaxLen"], apart := false }
def RecordReadsSaid : Prop := recordReadsRow.holds Try.pinned (OpenSpec.ofChange recordReadsSpec)

/-- ITS FALSE NEIGHBOUR: 'it returns false'. Refute it at one input. -/
def recordReadsWrong : ChangeSpec := { name := "recordReads", fn := fun _ => fun
  | [d1, d2] => { results := [.lit (.bool false)], args := [d1, d2] }
  | _ => none }
def RecordReadsWrongFalsely : Prop := recordReadsRow.holds Try.pinned (OpenSpec.ofChange recordReadsWrong)

/-- 'batonlaw18.RecordWrites': WHATEVER THE INPUT: true; the input reads as it did. -/
def recordWritesSpec : ChangeSpec := { name := "recordWrites", fn := fun _ => fun
  | [d1, d2] => { results := [.lit (.bool true)], args := [d1, d2] }
  | _ => none }
def recordWritesRow : OpenClaim := { program := "ytobanhbjkomieaa", sum := "5b181962a6da7a952c09fb2d52e22de505cb4b5ec1c6e83d4733c9a25dfaba62", func := "baton/batonlaw18.RecordWrites", spec := "recordWrites", inPlace := ["internal/bytealg.IndexByteString", "internal/bytealg.IndexString"], unfollowed := true, recurses := true, named := ["internal/bytealg.MaxLen"], apart := false }
def RecordWritesSaid : Prop := recordWritesRow.holds Try.pinned (OpenSpec.ofChange recordWritesSpec)

/-- ITS FALSE NEIGHBOUR: 'it returns false'. Refute it at one input. -/
def recordWritesWrong : ChangeSpec := { name := "recordWrites", fn := fun _ => fun
  | [d1, d2] => { results := [.lit (.bool false)], args := [d1, d2] }
  | _ => none }
def RecordWritesWrongFalsely : Prop := recordWritesRow.holds Try.pinned (OpenSpec.ofChange recordWritesWrong)

/-- 'batonlaw18.RecordBack': WHATEVER THE INPUT: true; the input reads as it did. -/
def recordBackSpec : ChangeSpec := { name := "recordBack", fn := fun _ => fun
  | [d1, d2, d3] => { results := [.lit (.bool true)], args := [d1, d2, d3] }
  | _ => none }
def recordBackRow : OpenClaim := { program := "ytobanhbjkomieaa", sum := "5b181962a6da7a952c09fb2d52e22de505cb4b5ec1c6e83d4733c9a25dfaba62", func := "baton/batonlaw18.RecordBack", spec := "recordBack", inPlace := ["internal/bytealg.IndexByteString", "internal/bytealg.IndexString"], unfollowed := true, recurses := true, named := ["internal/bytealg.MaxLen"], apart := false }
def RecordBackSaid : Prop := recordBackRow.holds Try.pinned (OpenSpec.ofChange recordBackSpec)

/-- ITS FALSE NEIGHBOUR: 'it returns false'. Refute it at one input. -/
def recordBackWrong : ChangeSpec := { name := "recordBack", fn := fun _ => fun
  | [d1, d2, d3] => { results := [.lit (.bool false)], args := [d1, d2, d3] }
  | _ => none }
def RecordBackWrongFalsely : Prop := recordBackRow.holds Try.pinned (OpenSpec.ofChange recordBackWrong)

/-- 'batonlaw18.RecordCut': WHATEVER THE INPUT: true; the input reads as it did. -/
def recordCutSpec : ChangeSpec := { name := "recordCut", fn := fun _ => fun
  | [d1, d2, d3, d4] => { results := [.lit (.bool true)], args := [d1, d2, d3, d4] }
  | _ => none }
def recordCutRow : OpenClaim := { program := "ytobanhbjkomieaa", sum := "5b181962a6da7a952c09fb2d52e22de505cb4b5ec1c6e83d4733c9a25dfaba62", func := "baton/batonlaw18.RecordCut", spec := "recordCut", inPlace := ["internal/bytealg.IndexByteString", "internal/bytealg.IndexString"], unfollowed := true, recurses := true, named := ["internal/bytealg.MaxLen"], apart := false }
def RecordCutSaid : Prop := recordCutRow.holds Try.pinned (OpenSpec.ofChange recordCutSpec)

/-- ITS FALSE NEIGHBOUR: 'it returns false'. Refute it at one input. -/
def recordCutWrong : ChangeSpec := { name := "recordCut", fn := fun _ => fun
  | [d1, d2, d3, d4] => { results := [.lit (.bool false)], args := [d1, d2, d3, d4] }
  | _ => none }
def RecordCutWrongFalsely : Prop := recordCutRow.holds Try.pinned (OpenSpec.ofChange recordCutWrong)

/-- 'batonlaw18.RecordLive': WHATEVER THE INPUT: true; the input reads as it did. -/
def recordLiveSpec : ChangeSpec := { name := "recordLive", fn := fun _ => fun
  | [d1, d2] => { results := [.lit (.bool true)], args := [d1, d2] }
  | _ => none }
def recordLiveRow : OpenClaim := { program := "ytobanhbjkomieaa", sum := "5b181962a6da7a952c09fb2d52e22de505cb4b5ec1c6e83d4733c9a25dfaba62", func := "baton/batonlaw18.RecordLive", spec := "recordLive", inPlace := ["internal/bytealg.IndexByteString", "internal/bytealg.IndexString"], unfollowed := true, recurses := true, named := ["internal/bytealg.MaxLen"], apart := false }
def RecordLiveSaid : Prop := recordLiveRow.holds Try.pinned (OpenSpec.ofChange recordLiveSpec)

/-- ITS FALSE NEIGHBOUR: 'it returns false'. Refute it at one input. -/
def recordLiveWrong : ChangeSpec := { name := "recordLive", fn := fun _ => fun
  | [d1, d2] => { results := [.lit (.bool false)], args := [d1, d2] }
  | _ => none }
def RecordLiveWrongFalsely : Prop := recordLiveRow.holds Try.pinned (OpenSpec.ofChange recordLiveWrong)

/-- 'batonlaw18.RecordNames': WHATEVER THE INPUT: true; the input reads as it did. -/
def recordNamesSpec : ChangeSpec := { name := "recordNames", fn := fun _ => fun
  | [] => { results := [.lit (.bool true)], args := [] }
  | _ => none }
def recordNamesRow : OpenClaim := { program := "ytobanhbjkomieaa", sum := "5b181962a6da7a952c09fb2d52e22de505cb4b5ec1c6e83d4733c9a25dfaba62", func := "baton/batonlaw18.RecordNames", spec := "recordNames", inPlace := ["internal/bytealg.IndexByteString", "internal/bytealg.IndexString"], unfollowed := true, recurses := true, named := ["internal/bytealg.MaxLen"], apart := false }
def RecordNamesSaid : Prop := recordNamesRow.holds Try.pinned (OpenSpec.ofChange recordNamesSpec)

/-- ITS FALSE NEIGHBOUR: 'it returns false'. Refute it at one input. -/
def recordNamesWrong : ChangeSpec := { name := "recordNames", fn := fun _ => fun
  | [] => { results := [.lit (.bool false)], args := [] }
  | _ => none }
def RecordNamesWrongFalsely : Prop := recordNamesRow.holds Try.pinned (OpenSpec.ofChange recordNamesWrong)

/-- 'batonlaw18.RecordWhose': WHATEVER THE INPUT: true; the input reads as it did. -/
def recordWhoseSpec : ChangeSpec := { name := "recordWhose", fn := fun _ => fun
  | [d1, d2, d3, d4, d5] => { results := [.lit (.bool true)], args := [d1, d2, d3, d4, d5] }
  | _ => none }
def recordWhoseRow : OpenClaim := { program := "ytobanhbjkomieaa", sum := "5b181962a6da7a952c09fb2d52e22de505cb4b5ec1c6e83d4733c9a25dfaba62", func := "baton/batonlaw18.RecordWhose", spec := "recordWhose", inPlace := ["internal/bytealg.IndexByteString", "internal/bytealg.IndexString"], unfollowed := true, recurses := true, named := ["internal/bytealg.MaxLen"], apart := false }
def RecordWhoseSaid : Prop := recordWhoseRow.holds Try.pinned (OpenSpec.ofChange recordWhoseSpec)

/-- ITS FALSE NEIGHBOUR: 'it returns false'. Refute it at one input. -/
def recordWhoseWrong : ChangeSpec := { name := "recordWhose", fn := fun _ => fun
  | [d1, d2, d3, d4, d5] => { results := [.lit (.bool false)], args := [d1, d2, d3, d4, d5] }
  | _ => none }
def RecordWhoseWrongFalsely : Prop := recordWhoseRow.holds Try.pinned (OpenSpec.ofChange recordWhoseWrong)

/-- 'batonlaw18.RecordCounts': WHATEVER THE INPUT: true; the input reads as it did. -/
def recordCountsSpec : ChangeSpec := { name := "recordCounts", fn := fun _ => fun
  | [d1, d2, d3, d4] => { results := [.lit (.bool true)], args := [d1, d2, d3, d4] }
  | _ => none }
def recordCountsRow : OpenClaim := { program := "ytobanhbjkomieaa", sum := "5b181962a6da7a952c09fb2d52e22de505cb4b5ec1c6e83d4733c9a25dfaba62", func := "baton/batonlaw18.RecordCounts", spec := "recordCounts", inPlace := ["internal/bytealg.IndexByteString", "internal/bytealg.IndexString"], unfollowed := true, recurses := true, named := ["internal/bytealg.MaxLen"], apart := false }
def RecordCountsSaid : Prop := recordCountsRow.holds Try.pinned (OpenSpec.ofChange recordCountsSpec)

/-- ITS FALSE NEIGHBOUR: 'it returns false'. Refute it at one input. -/
def recordCountsWrong : ChangeSpec := { name := "recordCounts", fn := fun _ => fun
  | [d1, d2, d3, d4] => { results := [.lit (.bool false)], args := [d1, d2, d3, d4] }
  | _ => none }
def RecordCountsWrongFalsely : Prop := recordCountsRow.holds Try.pinned (OpenSpec.ofChange recordCountsWrong)

/-- 'batonlaw20.ElectOne': WHATEVER THE INPUT: true; the input reads as it did. -/
def electOneSpec : ChangeSpec := { name := "electOne", fn := fun _ => fun
  | [d1, d2, d3, d4] => { results := [.lit (.bool true)], args := [d1, d2, d3, d4] }
  | _ => none }
def electOneRow : OpenClaim := { program := "ytobanhbjkomieaa", sum := "5b181962a6da7a952c09fb2d52e22de505cb4b5ec1c6e83d4733c9a25dfaba62", func := "baton/batonlaw20.ElectOne", spec := "electOne", unfollowed := true, recurses := true, apart := false }
def ElectOneSaid : Prop := electOneRow.holds Try.pinned (OpenSpec.ofChange electOneSpec)

/-- ITS FALSE NEIGHBOUR: 'it returns false'. Refute it at one input. -/
def electOneWrong : ChangeSpec := { name := "electOne", fn := fun _ => fun
  | [d1, d2, d3, d4] => { results := [.lit (.bool false)], args := [d1, d2, d3, d4] }
  | _ => none }
def ElectOneWrongFalsely : Prop := electOneRow.holds Try.pinned (OpenSpec.ofChange electOneWrong)

/-- 'batonlaw20.ElectNames': WHATEVER THE INPUT: true; the input reads as it did. -/
def electNamesSpec : ChangeSpec := { name := "electNames", fn := fun _ => fun
  | [] => { results := [.lit (.bool true)], args := [] }
  | _ => none }
def electNamesRow : OpenClaim := { program := "ytobanhbjkomieaa", sum := "5b181962a6da7a952c09fb2d52e22de505cb4b5ec1c6e83d4733c9a25dfaba62", func := "baton/batonlaw20.ElectNames", spec := "electNames", inPlace := ["internal/bytealg.IndexByteString", "internal/bytealg.IndexString"], unfollowed := true, recurses := true, named := ["internal/bytealg.MaxLen"], apart := false }
def ElectNamesSaid : Prop := electNamesRow.holds Try.pinned (OpenSpec.ofChange electNamesSpec)

/-- ITS FALSE NEIGHBOUR: 'it returns false'. Refute it at one input. -/
def electNamesWrong : ChangeSpec := { name := "electNames", fn := fun _ => fun
  | [] => { results := [.lit (.bool false)], args := [] }
  | _ => none }
def ElectNamesWrongFalsely : Prop := electNamesRow.holds Try.pinned (OpenSpec.ofChange electNamesWrong)

/- THE SECOND FORM. 'bulk': how many values and letters a reading holds, each counted each time it is reached (what is shared counts as often as it is met; a slice's spare places count too). A statement '..UptoSaid' is the law's where the arguments, and the package variables that the reading takes, are together of bulk at most 1048576: NARROWER than '..Said'. Prove '..Said' where nothing that the law and all that it calls make is longer than what came in: it says more and counts as full. Else prove '..UptoSaid'. A law counts once. -/
mutual
def uptoBulk {H : Type} : DataW H → Nat
  | .lit (.string bytes) => bytes.length + 1
  | .lit _ => 1
  | .nil => 1
  | .ptr d => uptoBulk d + 1
  | .slice elems spare => uptoBulkAll elems + uptoBulkAll spare + 1
  | .agg parts => uptoBulkAll parts + 1
  | .iface _ d => uptoBulk d + 1
  | .map entries => uptoBulkEntries entries + 1
  | .held _ => 1
def uptoBulkAll {H : Type} : List (DataW H) → Nat
  | [] => 0
  | d :: r => uptoBulk d + uptoBulkAll r
def uptoBulkEntries {H : Type} : List (Lit × DataW H) → Nat
  | [] => 0
  | x :: r => uptoBulkEntry x + uptoBulkEntries r
def uptoBulkEntry {H : Type} : Lit × DataW H → Nat
  | (.string bytes, d) => bytes.length + uptoBulk d + 1
  | (_, d) => uptoBulk d + 1
 end
def uptoSmall : (H : Type) → List (DataW H) → Bool := fun _ ds => decide (uptoBulkAll ds ≤ 1048576)
def OpenSpec.upto (s : _root_.Go.ChangeSpec) : _root_.Go.OpenSpec := { _root_.Go.OpenSpec.ofChange s with cond := some uptoSmall }

/-- 'batonlaw20.ElectPlans', WHERE WHAT IT READS IS OF BULK AT MOST 1048576: true; the input reads as it did. -/
def electPlansUptoRow : OpenClaim := { program := "ytobanhbjkomieaa", sum := "5b181962a6da7a952c09fb2d52e22de505cb4b5ec1c6e83d4733c9a25dfaba62", func := "baton/batonlaw20.ElectPlans", spec := "electPlans", unfollowed := true, recurses := true, apart := false, narrowed := true }
def ElectPlansUptoSaid : Prop := electPlansUptoRow.holds Try.pinned (OpenSpec.upto electPlansSpec)

/-- 'batonlaw12.TreeEvents', WHERE WHAT IT READS IS OF BULK AT MOST 1048576: true; the input reads as it did. -/
def treeEventsUptoRow : OpenClaim := { program := "ytobanhbjkomieaa", sum := "5b181962a6da7a952c09fb2d52e22de505cb4b5ec1c6e83d4733c9a25dfaba62", func := "baton/batonlaw12.TreeEvents", spec := "treeEvents", unfollowed := true, recurses := true, apart := false, narrowed := true }
def TreeEventsUptoSaid : Prop := treeEventsUptoRow.holds Try.pinned (OpenSpec.upto treeEventsSpec)

/-- 'batonlaw12.TreeLists', WHERE WHAT IT READS IS OF BULK AT MOST 1048576: true; the input reads as it did. -/
def treeListsUptoRow : OpenClaim := { program := "ytobanhbjkomieaa", sum := "5b181962a6da7a952c09fb2d52e22de505cb4b5ec1c6e83d4733c9a25dfaba62", func := "baton/batonlaw12.TreeLists", spec := "treeLists", unfollowed := true, recurses := true, apart := false, narrowed := true }
def TreeListsUptoSaid : Prop := treeListsUptoRow.holds Try.pinned (OpenSpec.upto treeListsSpec)

/-- 'batonlaw12.TreeConds', WHERE WHAT IT READS IS OF BULK AT MOST 1048576: true; the input reads as it did. -/
def treeCondsUptoRow : OpenClaim := { program := "ytobanhbjkomieaa", sum := "5b181962a6da7a952c09fb2d52e22de505cb4b5ec1c6e83d4733c9a25dfaba62", func := "baton/batonlaw12.TreeConds", spec := "treeConds", unfollowed := true, recurses := true, apart := false, narrowed := true }
def TreeCondsUptoSaid : Prop := treeCondsUptoRow.holds Try.pinned (OpenSpec.upto treeCondsSpec)

/-- 'batonlaw12.TreeApart', WHERE WHAT IT READS IS OF BULK AT MOST 1048576: true; the input reads as it did. -/
def treeApartUptoRow : OpenClaim := { program := "ytobanhbjkomieaa", sum := "5b181962a6da7a952c09fb2d52e22de505cb4b5ec1c6e83d4733c9a25dfaba62", func := "baton/batonlaw12.TreeApart", spec := "treeApart", unfollowed := true, recurses := true, apart := false, narrowed := true }
def TreeApartUptoSaid : Prop := treeApartUptoRow.holds Try.pinned (OpenSpec.upto treeApartSpec)

/-- 'batonlaw12.TreeRises', WHERE WHAT IT READS IS OF BULK AT MOST 1048576: true; the input reads as it did. -/
def treeRisesUptoRow : OpenClaim := { program := "ytobanhbjkomieaa", sum := "5b181962a6da7a952c09fb2d52e22de505cb4b5ec1c6e83d4733c9a25dfaba62", func := "baton/batonlaw12.TreeRises", spec := "treeRises", unfollowed := true, recurses := true, apart := false, narrowed := true }
def TreeRisesUptoSaid : Prop := treeRisesUptoRow.holds Try.pinned (OpenSpec.upto treeRisesSpec)

/-- 'batonlaw12.TreeCut', WHERE WHAT IT READS IS OF BULK AT MOST 1048576: true; the input reads as it did. -/
def treeCutUptoRow : OpenClaim := { program := "ytobanhbjkomieaa", sum := "5b181962a6da7a952c09fb2d52e22de505cb4b5ec1c6e83d4733c9a25dfaba62", func := "baton/batonlaw12.TreeCut", spec := "treeCut", unfollowed := true, recurses := true, apart := false, narrowed := true }
def TreeCutUptoSaid : Prop := treeCutUptoRow.holds Try.pinned (OpenSpec.upto treeCutSpec)

/-- 'batonlaw12.TreePlays', WHERE WHAT IT READS IS OF BULK AT MOST 1048576: true; the input reads as it did. -/
def treePlaysUptoRow : OpenClaim := { program := "ytobanhbjkomieaa", sum := "5b181962a6da7a952c09fb2d52e22de505cb4b5ec1c6e83d4733c9a25dfaba62", func := "baton/batonlaw12.TreePlays", spec := "treePlays", unfollowed := true, recurses := true, apart := false, narrowed := true }
def TreePlaysUptoSaid : Prop := treePlaysUptoRow.holds Try.pinned (OpenSpec.upto treePlaysSpec)

/-- 'batonlaw12.TreeOf', WHERE WHAT IT READS IS OF BULK AT MOST 1048576: true; the input reads as it did. -/
def treeOfUptoRow : OpenClaim := { program := "ytobanhbjkomieaa", sum := "5b181962a6da7a952c09fb2d52e22de505cb4b5ec1c6e83d4733c9a25dfaba62", func := "baton/batonlaw12.TreeOf", spec := "treeOf", unfollowed := true, recurses := true, apart := false, narrowed := true }
def TreeOfUptoSaid : Prop := treeOfUptoRow.holds Try.pinned (OpenSpec.upto treeOfSpec)

/-- 'batonlaw12.TreeNames', WHERE WHAT IT READS IS OF BULK AT MOST 1048576: true; the input reads as it did. -/
def treeNamesUptoRow : OpenClaim := { program := "ytobanhbjkomieaa", sum := "5b181962a6da7a952c09fb2d52e22de505cb4b5ec1c6e83d4733c9a25dfaba62", func := "baton/batonlaw12.TreeNames", spec := "treeNames", unfollowed := true, recurses := true, apart := false, narrowed := true }
def TreeNamesUptoSaid : Prop := treeNamesUptoRow.holds Try.pinned (OpenSpec.upto treeNamesSpec)

/-- 'batonlaw18.RecordReads', WHERE WHAT IT READS IS OF BULK AT MOST 1048576: true; the input reads as it did. -/
def recordReadsUptoRow : OpenClaim := { program := "ytobanhbjkomieaa", sum := "5b181962a6da7a952c09fb2d52e22de505cb4b5ec1c6e83d4733c9a25dfaba62", func := "baton/batonlaw18.RecordReads", spec := "recordReads", inPlace := ["internal/bytealg.IndexByteString", "internal/bytealg.IndexString"], unfollowed := true, recurses := true, named := ["internal/bytealg.MaxLen"], apart := false, narrowed := true }
def RecordReadsUptoSaid : Prop := recordReadsUptoRow.holds Try.pinned (OpenSpec.upto recordReadsSpec)

/-- 'batonlaw18.RecordWrites', WHERE WHAT IT READS IS OF BULK AT MOST 1048576: true; the input reads as it did. -/
def recordWritesUptoRow : OpenClaim := { program := "ytobanhbjkomieaa", sum := "5b181962a6da7a952c09fb2d52e22de505cb4b5ec1c6e83d4733c9a25dfaba62", func := "baton/batonlaw18.RecordWrites", spec := "recordWrites", inPlace := ["internal/bytealg.IndexByteString", "internal/bytealg.IndexString"], unfollowed := true, recurses := true, named := ["internal/bytealg.MaxLen"], apart := false, narrowed := true }
def RecordWritesUptoSaid : Prop := recordWritesUptoRow.holds Try.pinned (OpenSpec.upto recordWritesSpec)

/-- 'batonlaw18.RecordBack', WHERE WHAT IT READS IS OF BULK AT MOST 1048576: true; the input reads as it did. -/
def recordBackUptoRow : OpenClaim := { program := "ytobanhbjkomieaa", sum := "5b181962a6da7a952c09fb2d52e22de505cb4b5ec1c6e83d4733c9a25dfaba62", func := "baton/batonlaw18.RecordBack", spec := "recordBack", inPlace := ["internal/bytealg.IndexByteString", "internal/bytealg.IndexString"], unfollowed := true, recurses := true, named := ["internal/bytealg.MaxLen"], apart := false, narrowed := true }
def RecordBackUptoSaid : Prop := recordBackUptoRow.holds Try.pinned (OpenSpec.upto recordBackSpec)

/-- 'batonlaw18.RecordCut', WHERE WHAT IT READS IS OF BULK AT MOST 1048576: true; the input reads as it did. -/
def recordCutUptoRow : OpenClaim := { program := "ytobanhbjkomieaa", sum := "5b181962a6da7a952c09fb2d52e22de505cb4b5ec1c6e83d4733c9a25dfaba62", func := "baton/batonlaw18.RecordCut", spec := "recordCut", inPlace := ["internal/bytealg.IndexByteString", "internal/bytealg.IndexString"], unfollowed := true, recurses := true, named := ["internal/bytealg.MaxLen"], apart := false, narrowed := true }
def RecordCutUptoSaid : Prop := recordCutUptoRow.holds Try.pinned (OpenSpec.upto recordCutSpec)

/-- 'batonlaw18.RecordLive', WHERE WHAT IT READS IS OF BULK AT MOST 1048576: true; the input reads as it did. -/
def recordLiveUptoRow : OpenClaim := { program := "ytobanhbjkomieaa", sum := "5b181962a6da7a952c09fb2d52e22de505cb4b5ec1c6e83d4733c9a25dfaba62", func := "baton/batonlaw18.RecordLive", spec := "recordLive", inPlace := ["internal/bytealg.IndexByteString", "internal/bytealg.IndexString"], unfollowed := true, recurses := true, named := ["internal/bytealg.MaxLen"], apart := false, narrowed := true }
def RecordLiveUptoSaid : Prop := recordLiveUptoRow.holds Try.pinned (OpenSpec.upto recordLiveSpec)

/-- 'batonlaw18.RecordNames', WHERE WHAT IT READS IS OF BULK AT MOST 1048576: true; the input reads as it did. -/
def recordNamesUptoRow : OpenClaim := { program := "ytobanhbjkomieaa", sum := "5b181962a6da7a952c09fb2d52e22de505cb4b5ec1c6e83d4733c9a25dfaba62", func := "baton/batonlaw18.RecordNames", spec := "recordNames", inPlace := ["internal/bytealg.IndexByteString", "internal/bytealg.IndexString"], unfollowed := true, recurses := true, named := ["internal/bytealg.MaxLen"], apart := false, narrowed := true }
def RecordNamesUptoSaid : Prop := recordNamesUptoRow.holds Try.pinned (OpenSpec.upto recordNamesSpec)

/-- 'batonlaw18.RecordWhose', WHERE WHAT IT READS IS OF BULK AT MOST 1048576: true; the input reads as it did. -/
def recordWhoseUptoRow : OpenClaim := { program := "ytobanhbjkomieaa", sum := "5b181962a6da7a952c09fb2d52e22de505cb4b5ec1c6e83d4733c9a25dfaba62", func := "baton/batonlaw18.RecordWhose", spec := "recordWhose", inPlace := ["internal/bytealg.IndexByteString", "internal/bytealg.IndexString"], unfollowed := true, recurses := true, named := ["internal/bytealg.MaxLen"], apart := false, narrowed := true }
def RecordWhoseUptoSaid : Prop := recordWhoseUptoRow.holds Try.pinned (OpenSpec.upto recordWhoseSpec)

/-- 'batonlaw18.RecordCounts', WHERE WHAT IT READS IS OF BULK AT MOST 1048576: true; the input reads as it did. -/
def recordCountsUptoRow : OpenClaim := { program := "ytobanhbjkomieaa", sum := "5b181962a6da7a952c09fb2d52e22de505cb4b5ec1c6e83d4733c9a25dfaba62", func := "baton/batonlaw18.RecordCounts", spec := "recordCounts", inPlace := ["internal/bytealg.IndexByteString", "internal/bytealg.IndexString"], unfollowed := true, recurses := true, named := ["internal/bytealg.MaxLen"], apart := false, narrowed := true }
def RecordCountsUptoSaid : Prop := recordCountsUptoRow.holds Try.pinned (OpenSpec.upto recordCountsSpec)

/-- 'batonlaw20.ElectOne', WHERE WHAT IT READS IS OF BULK AT MOST 1048576: true; the input reads as it did. -/
def electOneUptoRow : OpenClaim := { program := "ytobanhbjkomieaa", sum := "5b181962a6da7a952c09fb2d52e22de505cb4b5ec1c6e83d4733c9a25dfaba62", func := "baton/batonlaw20.ElectOne", spec := "electOne", unfollowed := true, recurses := true, apart := false, narrowed := true }
def ElectOneUptoSaid : Prop := electOneUptoRow.holds Try.pinned (OpenSpec.upto electOneSpec)

/-- 'batonlaw20.ElectNames', WHERE WHAT IT READS IS OF BULK AT MOST 1048576: true; the input reads as it did. -/
def electNamesUptoRow : OpenClaim := { program := "ytobanhbjkomieaa", sum := "5b181962a6da7a952c09fb2d52e22de505cb4b5ec1c6e83d4733c9a25dfaba62", func := "baton/batonlaw20.ElectNames", spec := "electNames", inPlace := ["internal/bytealg.IndexByteString", "internal/bytealg.IndexString"], unfollowed := true, recurses := true, named := ["internal/bytealg.MaxLen"], apart := false, narrowed := true }
def ElectNamesUptoSaid : Prop := electNamesUptoRow.holds Try.pinned (OpenSpec.upto electNamesSpec)

end Rows
end Go.Proofs.Ytobanhbjkomieaa
