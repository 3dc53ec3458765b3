import Derived.Test.YtobanhbjkomieaaPAllx0Sv
import Derived.Test.YtobanhbjkomieaaPAllx1Sv
import Derived.Test.YtobanhbjkomieaaPAllx2Sv
import Derived.Test.YtobanhbjkomieaaPAllx3Sv
import Derived.Test.YtobanhbjkomieaaPAllx4Sv
import Derived.Lib.Strings
import Derived.Lib.Bytealg
namespace Go.Proofs.Ytobanhbjkomieaa.KP
open Go.RowKit Go.Proofs.Ytobanhbjkomieaa.PAll Go.Proofs.YtobanhbjkomieaaW.PrintWords Go.Proofs.YtobanhbjkomieaaW.PrintLast
theorem of_ev (c : Int) : Ev (fun _ => keys_of.f c) (kindOf c) := Ev.now _
theorem wrap_succ {i : Int} (h0 : 0 ≤ i) (h : i ≤ 140737488355328) : wrap64 (i + 1) = i + 1 := by unfold wrap64; omega
def allK (least : Int) (l : List UInt8) : Bool := l.all fun b => decide (least ≤ kindOf (b.toNat : Int))
theorem bt_mk (l : List UInt8) (i : Nat) (h : i < l.length) : bt ⟨l.toArray⟩ (i : Int) = ((l[i]'h).toNat : Int) := by
  unfold bt
  have : ((i : Int).toNat) < (⟨l.toArray⟩ : ByteArray).size := by show _ < l.toArray.size; simpa using h
  rw [dif_pos this]
  rfl
theorem size_mk (l : List UInt8) : (⟨l.toArray⟩ : ByteArray).size = l.length := by show l.toArray.size = _; simp
theorem all_l0 (l : List UInt8) (hl : l.length ≤ 140737488351232) (least most : Int) : ∀ (d i : Nat), i + d = l.length →
    Ev (fun k => keys_all.l0 k ⟨l.toArray⟩ least most (l.length : Int) (i : Int)) (allK least (l.drop i) && decide ((l.length : Int) ≤ most))
  | 0, i, h => by
    refine Ev.step (f := fun _ => some (allK least (l.drop i) && decide ((l.length : Int) ≤ most))) (fun k => ?_) (Ev.now _)
    simp only [keys_all.l0]
    rw [if_neg (by omega), List.drop_eq_nil_of_le (by omega), size_mk]
    simp [allK]
  | d + 1, i, h => by
    have hi : i < l.length := by omega
    have hd : l.drop i = l[i] :: l.drop (i + 1) := List.drop_eq_getElem_cons hi
    have ih := all_l0 l hl least most d (i + 1) (by omega)
    refine Ev.step (f := fun k => (keys_of.f (bt ⟨l.toArray⟩ (i : Int))).bind fun t => if t < least then some false else keys_all.l0 k ⟨l.toArray⟩ least most (l.length : Int) (wrap64 ((i : Int) + 1))) (fun k => ?_) ?_
    · simp only [keys_all.l0]
      rw [if_pos (by omega), if_pos (by omega), if_pos (by rw [size_mk]; omega)]
    · refine Ev.bind (of_ev _) ?_
      rw [bt_mk l i hi, wrap_succ (by omega) (by omega), hd]
      by_cases hc : kindOf (l[i].toNat : Int) < least
      · simp only [if_pos hc, allK, List.all_cons]
        rw [decide_eq_false (by omega)]
        exact Ev.now _
      · simp only [if_neg hc, allK, List.all_cons]
        rw [decide_eq_true (by omega), Bool.true_and]
        exact ih
theorem all_ev (l : List UInt8) (hl : l.length ≤ 140737488351232) (least most : Int) : Ev (fun k => keys_all.f k ⟨l.toArray⟩ least most) (allK least l && decide ((l.length : Int) ≤ most)) := by
  have h := all_l0 l hl least most l.length 0 (by omega)
  refine Ev.congr (fun k => ?_) h
  simp only [keys_all.f, size_mk]
  rfl
def isName (l : List UInt8) : Bool := !l.isEmpty && (allK 2 l && decide (l.length ≤ 24))
theorem dec_cast (n m : Nat) : decide ((n : Int) ≤ (m : Int)) = decide (n ≤ m) := by
  rw [Bool.eq_iff_iff]; simp
theorem toList_mk (l : List UInt8) : (⟨l.toArray⟩ : ByteArray).toList = l := by rw [Lib.toList_data]
theorem name_ev (l : List UInt8) (hl : l.length ≤ 140737488351232) : Ev (fun k => keys_Name.f k ⟨l.toArray⟩) (isName l) := by
  unfold isName
  by_cases h : l = []
  · subst h
    refine Ev.congr (f := fun _ => some false) (fun k => ?_) (Ev.now _)
    simp only [keys_Name.f, toList_mk, if_true]
  · refine Ev.congr (f := fun k => (keys_all.f k ⟨l.toArray⟩ 2 24).bind fun t => some t) (fun k => ?_) ?_
    · simp only [keys_Name.f, toList_mk]
      rw [if_neg h]
    · have h1 := all_ev l hl 2 24
      rw [show (24 : Int) = ((24 : Nat) : Int) from rfl, dec_cast] at h1
      have : l.isEmpty = false := by cases l <;> simp_all
      rw [this]
      exact Ev.bind h1 (Ev.now _)
def clustersK (t : List UInt8) : List UInt8 := if isName t then [99, 47] ++ t ++ [47] else []
def clusterK (t c : List UInt8) : List UInt8 := if isName t && isName c then [99, 47] ++ t ++ [47] ++ c else []
def tenantK (t : List UInt8) : List UInt8 := if isName t then [116, 47] ++ t else []
theorem append_mk (a b : List UInt8) : (⟨a.toArray⟩ : ByteArray) ++ ⟨b.toArray⟩ = ⟨(a ++ b).toArray⟩ := by
  apply WideShapes.bytes_inj
  simp
theorem lit_mk1 (a : UInt8) : (⟨#[a]⟩ : ByteArray) = ⟨[a].toArray⟩ := rfl
theorem lit_mk2 (a b : UInt8) : (⟨#[a, b]⟩ : ByteArray) = ⟨[a, b].toArray⟩ := rfl
theorem clusters_ev (t : List UInt8) (ht : t.length ≤ 140737488351232) : Ev (fun k => keys_Clusters.f k ⟨t.toArray⟩) ⟨(clustersK t).toArray⟩ := by
  refine Ev.bind (name_ev t ht) ?_
  unfold clustersK
  cases isName t
  · simpa using Ev.now _
  · simp only [if_true]
    rw [size_mk, if_pos (by omega), lit_mk2, lit_mk1, append_mk, append_mk]
    exact Ev.now _
theorem cluster_ev (t c : List UInt8) (ht : t.length ≤ 140737488351232) (hc : c.length ≤ 140737488351232) : Ev (fun k => keys_Cluster.f k ⟨t.toArray⟩ ⟨c.toArray⟩) ⟨(clusterK t c).toArray⟩ := by
  refine Ev.bind (name_ev t ht) ?_
  unfold clusterK
  cases h : isName t
  · simpa using Ev.now _
  · simp only [if_true, Bool.true_and]
    refine Ev.bind (name_ev c hc) ?_
    cases isName c
    · simpa using Ev.now _
    · simp only [if_true]
      refine Ev.bind (clusters_ev t ht) ?_
      unfold clustersK
      simp only [h, if_true]
      rw [size_mk, size_mk, if_pos (by simp; omega), append_mk]
      exact Ev.now _
theorem tenant_ev (t : List UInt8) (ht : t.length ≤ 140737488351232) : Ev (fun k => keys_Tenant.f k ⟨t.toArray⟩) ⟨(tenantK t).toArray⟩ := by
  refine Ev.bind (name_ev t ht) ?_
  unfold tenantK
  cases isName t
  · simpa using Ev.now _
  · simp only [if_true]
    rw [size_mk, if_pos (by omega), lit_mk2, append_mk]
    exact Ev.now _
theorem last_eq (l : List UInt8) (_h : l ≠ []) : ∀ h', (l[l.length - 1]'h') = l.getLastD 0 := by
  intro h'
  rw [List.getLastD_eq_getLast?, List.getLast?_eq_getElem?, List.getElem?_eq_getElem h']
  rfl
end Go.Proofs.Ytobanhbjkomieaa.KP
namespace Go.Proofs.Ytobanhbjkomieaa.KP
open Go.RowKit Go.Proofs.Ytobanhbjkomieaa.PAll Go.Proofs.YtobanhbjkomieaaW.PrintWords Go.Proofs.YtobanhbjkomieaaW.PrintLast
theorem in_l0 (c : Int) (l : List UInt8) (hl : l.length ≤ 140737488351232) : ∀ (d i : Nat), i + d = l.length →
    Ev (fun k => batonref11_in.l0 k c ⟨l.toArray⟩ (i : Int)) ((l.drop i).any fun b => decide ((b.toNat : Int) = c))
  | 0, i, h => by
    refine Ev.step (f := fun _ => some ((l.drop i).any fun b => decide ((b.toNat : Int) = c))) (fun k => ?_) (Ev.now _)
    simp only [batonref11_in.l0]
    rw [size_mk, if_neg (by omega), List.drop_eq_nil_of_le (by omega)]
    rfl
  | d + 1, i, h => by
    have hi : i < l.length := by omega
    have hd : l.drop i = l[i] :: l.drop (i + 1) := List.drop_eq_getElem_cons hi
    have ih := in_l0 c l hl d (i + 1) (by omega)
    rw [hd, List.any_cons]
    by_cases hc : ((l[i].toNat : Int)) = c
    · refine Ev.step (f := fun _ => some true) (fun k => ?_) ?_
      · simp only [batonref11_in.l0]
        rw [if_pos (by rw [size_mk]; omega), if_pos (by omega), bt_mk l i hi, if_pos hc]
      · rw [decide_eq_true hc]
        exact Ev.now _
    · refine Ev.step (f := fun k => batonref11_in.l0 k c ⟨l.toArray⟩ ((i + 1 : Nat) : Int)) (fun k => ?_) ?_
      · simp only [batonref11_in.l0]
        rw [if_pos (by rw [size_mk]; omega), if_pos (by omega), bt_mk l i hi, if_neg hc, wrap_succ (by omega) (by omega)]
        rfl
      · rw [decide_eq_false hc, Bool.false_or]
        exact ih
theorem in_ev (c : Int) (l : List UInt8) (hl : l.length ≤ 140737488351232) : Ev (fun k => batonref11_in.f k c ⟨l.toArray⟩) (l.any fun b => decide ((b.toNat : Int) = c)) :=
  in_l0 c l hl l.length 0 (by omega)
theorem made_l0 (l al : List UInt8) (hl : l.length ≤ 140737488351232) (ha : al.length ≤ 140737488351232) : ∀ (d i : Nat), i + d = l.length →
    Ev (fun k => batonref11_made.l0 k ⟨l.toArray⟩ ⟨al.toArray⟩ (i : Int)) ((l.drop i).all fun x => al.any fun b => decide ((b.toNat : Int) = (x.toNat : Int)))
  | 0, i, h => by
    refine Ev.step (f := fun _ => some ((l.drop i).all fun x => al.any fun b => decide ((b.toNat : Int) = (x.toNat : Int)))) (fun k => ?_) (Ev.now _)
    simp only [batonref11_made.l0]
    rw [size_mk, if_neg (by omega), List.drop_eq_nil_of_le (by omega)]
    rfl
  | d + 1, i, h => by
    have hi : i < l.length := by omega
    have hd : l.drop i = l[i] :: l.drop (i + 1) := List.drop_eq_getElem_cons hi
    have ih := made_l0 l al hl ha d (i + 1) (by omega)
    rw [hd, List.all_cons]
    refine Ev.step (f := fun k => (batonref11_in.f k (l[i].toNat : Int) ⟨al.toArray⟩).bind fun t => if t = true then batonref11_made.l0 k ⟨l.toArray⟩ ⟨al.toArray⟩ ((i + 1 : Nat) : Int) else some false) (fun k => ?_) ?_
    · simp only [batonref11_made.l0]
      rw [if_pos (by rw [size_mk]; omega), if_pos (by omega), bt_mk l i hi, wrap_succ (by omega) (by omega)]
      rfl
    · refine Ev.bind (in_ev _ al ha) ?_
      cases al.any fun b => decide ((b.toNat : Int) = (l[i].toNat : Int))
      · simpa using Ev.now _
      · simpa using ih
theorem made_ev (l al : List UInt8) (most : Nat) (hl : l.length ≤ 140737488351232) (ha : al.length ≤ 140737488351232) :
    Ev (fun k => batonref11_made.f k ⟨l.toArray⟩ ⟨al.toArray⟩ (most : Int)) (decide (l.length ≤ most) && l.all fun x => al.any fun b => decide ((b.toNat : Int) = (x.toNat : Int))) := by
  by_cases h : l.length ≤ most
  · rw [decide_eq_true h, Bool.true_and]
    refine Ev.congr (f := fun k => batonref11_made.l0 k ⟨l.toArray⟩ ⟨al.toArray⟩ ((0 : Nat) : Int)) (fun k => ?_) (made_l0 l al hl ha l.length 0 (by omega))
    simp only [batonref11_made.f]
    rw [if_neg (by rw [size_mk]; omega)]
    rfl
  · rw [decide_eq_false h, Bool.false_and]
    refine Ev.congr (f := fun _ => some false) (fun k => ?_) (Ev.now _)
    simp only [batonref11_made.f]
    rw [if_pos (by rw [size_mk]; omega)]
def nameBytes : List UInt8 := [97, 98, 99, 100, 101, 102, 103, 104, 105, 106, 107, 108, 109, 110, 111, 112, 113, 114, 115, 116, 117, 118, 119, 120, 121, 122, 65, 66, 67, 68, 69, 70, 71, 72, 73, 74, 75, 76, 77, 78, 79, 80, 81, 82, 83, 84, 85, 86, 87, 88, 89, 90, 48, 49, 50, 51, 52, 53, 54, 55, 56, 57, 45, 95, 46]
theorem nameBytes_all : ∀ n : Fin 256, (nameBytes.any fun b => decide ((b.toNat : Int) = ((n.val : Nat) : Int))) = decide (2 ≤ kindOf ((n.val : Nat) : Int)) := by decide +kernel
theorem all_names (l : List UInt8) : (l.all fun x => nameBytes.any fun b => decide ((b.toNat : Int) = (x.toNat : Int))) = allK 2 l := by
  unfold allK
  congr 1
  funext x
  exact nameBytes_all ⟨x.toNat, x.toNat_lt⟩
theorem rname_ev (l : List UInt8) (hl : l.length ≤ 140737488351232) : Ev (fun k => batonref11_Name.f k ⟨l.toArray⟩) (isName l) := by
  have h1 := made_ev l nameBytes 24 hl (by decide)
  rw [all_names] at h1
  unfold isName
  by_cases h : l = []
  · subst h
    refine Ev.congr (f := fun _ => some false) (fun k => ?_) (Ev.now _)
    simp only [batonref11_Name.f]
    rw [if_neg (by rw [size_mk]; decide)]
  · have h2 : l.isEmpty = false := by cases l <;> simp_all
    have hne : l.length ≠ 0 := by simpa using h
    rw [h2, Bool.not_false, Bool.true_and, Bool.and_comm]
    refine Ev.congr (f := fun k => (batonref11_made.f k ⟨l.toArray⟩ ⟨nameBytes.toArray⟩ ((24 : Nat) : Int)).bind fun t => some t) (fun k => ?_) (Ev.bind h1 (Ev.now _))
    simp only [batonref11_Name.f]
    rw [if_pos (by rw [size_mk]; omega)]
    rfl
theorem rcluster_ev (t c : List UInt8) (ht : t.length ≤ 140737488351232) (hc : c.length ≤ 140737488351232) : Ev (fun k => batonref11_Cluster.f k ⟨t.toArray⟩ ⟨c.toArray⟩) ⟨(clusterK t c).toArray⟩ := by
  refine Ev.bind (rname_ev t ht) ?_
  unfold clusterK
  cases h : isName t
  · simpa using Ev.now _
  · simp only [if_true, Bool.true_and]
    refine Ev.bind (rname_ev c hc) ?_
    cases isName c
    · simpa using Ev.now _
    · simp only [if_true]
      rw [size_mk, size_mk, if_pos (by omega), if_pos (by omega), lit_mk2, lit_mk1, append_mk, append_mk, append_mk]
      exact Ev.now _
theorem rtenant_ev (t : List UInt8) (ht : t.length ≤ 140737488351232) : Ev (fun k => batonref11_Tenant.f k ⟨t.toArray⟩) ⟨(tenantK t).toArray⟩ := by
  refine Ev.bind (rname_ev t ht) ?_
  unfold tenantK
  cases isName t
  · simpa using Ev.now _
  · simp only [if_true]
    rw [size_mk, if_pos (by omega), lit_mk2, append_mk]
    exact Ev.now _
theorem isName_len {t : List UInt8} (h : isName t = true) : 1 ≤ t.length ∧ t.length ≤ 24 := by
  unfold isName at h
  simp only [Bool.and_eq_true, decide_eq_true_eq, Bool.not_eq_true', List.isEmpty_eq_false_iff] at h
  exact ⟨List.length_pos_iff.2 h.1, h.2.2⟩
end Go.Proofs.Ytobanhbjkomieaa.KP
namespace Go.Proofs.Ytobanhbjkomieaa.KP
open Go.RowKit Go.Proofs.Ytobanhbjkomieaa.PAll Go.Proofs.YtobanhbjkomieaaW.PrintWords Go.Proofs.YtobanhbjkomieaaW.PrintLast
theorem ev_calls {α : Type} {g : Nat → Option α} {r : α} (h : Ev g r) {Q : Prop} (k : ∀ n, g n = some r → Q) : Q := by
  obtain ⟨n, hn⟩ := h.rounds
  exact k n hn
section
variable (s t : ByteArray) (hs : s.size ≤ 140737488351232) (ht : t.size ≤ 140737488351232) (w : World)
include hs
theorem keysName_any : Calls Try.prog 107 #[.string s] w fun e w' => e = .returned (.bool (isName s.data.toList)) ∧ Drawn0 w w' := by
  obtain ⟨⟨l⟩⟩ := s
  exact ev_calls (name_ev l (by rw [size_mk] at hs; exact hs)) (fun k h => keys_Name.calls k _ _ w h)
theorem keysTenant_any : Calls Try.prog 170 #[.string s] w fun e w' => e = .returned (.string ⟨(tenantK s.data.toList).toArray⟩) ∧ Drawn0 w w' := by
  obtain ⟨⟨l⟩⟩ := s
  exact ev_calls (tenant_ev l (by rw [size_mk] at hs; exact hs)) (fun k h => keys_Tenant.calls k _ _ w h)
theorem refName_any : Calls Try.prog 94 #[.string s] w fun e w' => e = .returned (.bool (isName s.data.toList)) ∧ Drawn0 w w' := by
  obtain ⟨⟨l⟩⟩ := s
  exact ev_calls (rname_ev l (by rw [size_mk] at hs; exact hs)) (fun k h => batonref11_Name.calls k _ _ w h)
theorem refTenant_any : Calls Try.prog 96 #[.string s] w fun e w' => e = .returned (.string ⟨(tenantK s.data.toList).toArray⟩) ∧ Drawn0 w w' := by
  obtain ⟨⟨l⟩⟩ := s
  exact ev_calls (rtenant_ev l (by rw [size_mk] at hs; exact hs)) (fun k h => batonref11_Tenant.calls k _ _ w h)
include ht
theorem keysCluster_any : Calls Try.prog 168 #[.string s, .string t] w fun e w' => e = .returned (.string ⟨(clusterK s.data.toList t.data.toList).toArray⟩) ∧ Drawn0 w w' := by
  obtain ⟨⟨l⟩⟩ := s
  obtain ⟨⟨m⟩⟩ := t
  exact ev_calls (cluster_ev l m (by rw [size_mk] at hs; exact hs) (by rw [size_mk] at ht; exact ht)) (fun k h => keys_Cluster.calls k _ _ _ w h)
theorem refCluster_any : Calls Try.prog 95 #[.string s, .string t] w fun e w' => e = .returned (.string ⟨(clusterK s.data.toList t.data.toList).toArray⟩) ∧ Drawn0 w w' := by
  obtain ⟨⟨l⟩⟩ := s
  obtain ⟨⟨m⟩⟩ := t
  exact ev_calls (rcluster_ev l m (by rw [size_mk] at hs; exact hs) (by rw [size_mk] at ht; exact ht)) (fun k h => batonref11_Cluster.calls k _ _ _ w h)
end
end Go.Proofs.Ytobanhbjkomieaa.KP
namespace Go.Proofs.Ytobanhbjkomieaa.KP
open Go.RowKit Go.Proofs.Ytobanhbjkomieaa.PAll Go.Proofs.YtobanhbjkomieaaW.PrintWords Go.Proofs.YtobanhbjkomieaaW.PrintLast
end Go.Proofs.Ytobanhbjkomieaa.KP
namespace Go.Proofs.Ytobanhbjkomieaa.KP
open Go.RowKit Go.Proofs.Ytobanhbjkomieaa.PAll Go.Proofs.YtobanhbjkomieaaW.PrintWords Go.Proofs.YtobanhbjkomieaaW.PrintLast
end Go.Proofs.Ytobanhbjkomieaa.KP
