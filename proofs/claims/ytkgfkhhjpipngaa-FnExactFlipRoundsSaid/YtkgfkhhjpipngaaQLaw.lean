/- What every exact law does around its two calls: it weighs the graph, copies it, and holds the copy against another one. The edges are whole numbers of 64 bits. -/
import Derived.Test.YtkgfkhhjpipngaaQWay
import Derived.Test.YtkgfkhhjpipngaaG29
namespace Go.Proofs.Ytkgfkhhjpipngaa.Q
open Go.RowKit Go.Proofs.Ytkgfkhhjpipngaa.G Go.Proofs.YtkgfkhhjpipngaaW.PrintWords Go.Proofs.YtkgfkhhjpipngaaW.PrintLast Go.Proofs.YtkgfkhhjpipngaaW.PrintMore
set_option linter.unusedVariables false
set_option linter.unusedSimpArgs false
abbrev L := S96
def conv (e : L) : E := ⟨e.f0, e.f1⟩
theorem szGraph_eq (a : Int) (l : List L) (h : l.length ≤ maxLen) : ∃ t, laws_szGraph.f a l 1048576 = some t ∧ (t < 0 ∨ ¬ t < 0 ∧ l.length ≤ 1048576) := by
  unfold maxLen at h
  have e : wrap64 (1048576 - (l.length : Int)) = 1048576 - (l.length : Int) := by unfold wrap64; omega
  unfold laws_szGraph.f laws_szEdgeS.f
  rw [e]
  by_cases hl : (1048576 : Int) - (l.length : Int) < 0
  · rw [if_pos hl]
    exact ⟨-1, by simp, .inl (by decide)⟩
  · rw [if_neg hl]
    simp only [Option.bind_some]
    rw [if_neg hl]
    exact ⟨_, rfl, .inr ⟨hl, by omega⟩⟩
theorem rdL (l : List L) (i : Nat) : rd_T96 l (i : Int) = l.getD i z96 := by simp [rd_T96]
theorem toEdgeS_loop (l : List L) (hl : l.length ≤ 1048576) : ∀ (d i : Nat) (s : List E), i + d = l.length → s.length = l.length → Ev (fun k => laws_toEdgeS.l0 k l s (i : Int)) (s.take i ++ (l.drop i).map conv)
  | 0, i, s, h, hs => by
    refine Ev.step (f := fun _ => some s) (fun k => ?_) (Ev.eq_ (Ev.now _) ?_)
    · simp only [laws_toEdgeS.l0]
      rw [if_neg (by omega)]
    · rw [List.drop_of_length_le (by omega), List.take_of_length_le (by omega)]; simp
  | d + 1, i, s, h, hs => by
    have e1 : wrap64 ((i : Int) + 1) = ((i + 1 : Nat) : Int) := by unfold wrap64; omega
    have hi : i < l.length := by omega
    have ih := toEdgeS_loop l hl d (i + 1) (s.set i (conv (l[i]))) (by omega) (by simp [hs])
    have hr : (s.set i (conv (l[i]))).take (i + 1) ++ (l.drop (i + 1)).map conv = s.take i ++ (l.drop i).map conv := by
      rw [List.drop_eq_getElem_cons hi, List.map_cons, List.take_add_one, List.take_set_of_le (Nat.le_refl _)]
      rw [List.getElem?_set_self (by omega)]
      simp
    rw [← hr]
    refine Ev.step (fun k => ?_) ih
    simp only [laws_toEdgeS.l0]
    rw [if_pos (by omega), if_pos (by omega), rdL]
    simp only [laws_toEdge.f, Option.bind_some]
    rw [if_pos (by omega), e1, Int.toNat_natCast, List.getD_eq_getElem?_getD, List.getElem?_eq_getElem hi]
    rfl
theorem toGraph_ev (a : Int) (l : List L) (hl : l.length ≤ 1048576) : Ev (fun k => laws_toGraph.f k a l) (a, l.map conv) := by
  unfold laws_toGraph.f laws_toEdgeS.f
  have h := toEdgeS_loop l hl l.length 0 (List.replicate l.length z68) (by omega) (by simp)
  simp only [List.take_zero, List.nil_append, List.drop_zero] at h
  refine Ev.bind (Ev.congr (fun k => ?_) h) (Ev.now _)
  rw [if_pos (by omega), if_pos (by omega)]
  rfl
theorem eqEdgeS_loop (l : List E) (hl : l.length ≤ 1048576) : ∀ (d i : Nat), i + d = l.length → Ev (fun k => laws_eqEdgeS.l0 k l l (i : Int)) true
  | 0, i, h => by
    refine Ev.step (f := fun _ => some true) (fun k => ?_) (Ev.now _)
    simp only [laws_eqEdgeS.l0]
    rw [if_neg (by omega)]
  | d + 1, i, h => by
    have e1 : wrap64 ((i : Int) + 1) = ((i + 1 : Nat) : Int) := by unfold wrap64; omega
    refine Ev.step (fun k => ?_) (eqEdgeS_loop l hl d (i + 1) (by omega))
    simp only [laws_eqEdgeS.l0, laws_eqEdge.f]
    rw [if_pos (by omega), if_pos (by omega), if_pos (by omega)]
    simp [e1]
theorem eqGraph_ev (a : Int) (l : List E) (hl : l.length ≤ 1048576) : Ev (fun k => laws_eqGraph.f k a l a l) true := by
  unfold laws_eqGraph.f laws_eqEdgeS.f
  simp only [if_true]
  refine Ev.bind (eqEdgeS_loop l hl l.length 0 (by omega)) ?_
  simp only [if_true]
  exact Ev.now _
theorem conv_wf {l : List L} (hl : l.length ≤ 1048576) (h : ∀ e ∈ l, (Lit.int .i64 e.f0).wf = true ∧ (Lit.int .i64 e.f1).wf = true) : WfE (l.map conv) := by
  refine ⟨by simp; omega, fun e he => ?_⟩
  obtain ⟨x, hx, rfl⟩ := List.mem_map.1 he
  exact ⟨InR.of_wf (h x hx).1, InR.of_wf (h x hx).2⟩
end Go.Proofs.Ytkgfkhhjpipngaa.Q
