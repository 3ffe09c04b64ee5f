/- The program's KernelGame: the values in the order of the nodes, the last one first. The graph is valid. -/
import Derived.Test.YtfijegfjpagjoaaQGame
import Derived.Test.YtfijegfjpagjoaaQPlainIn
namespace Go.Proofs.Ytfijegfjpagjoaa.Q
open Go.RowKit Go.Proofs.Ytfijegfjpagjoaa.G Go.Proofs.YtfijegfjpagjoaaW.PrintWords Go.Proofs.YtfijegfjpagjoaaW.PrintLast Go.Proofs.YtfijegfjpagjoaaW.PrintMore
set_option linter.unusedVariables false
set_option linter.unusedSimpArgs false
theorem I_zero (n : Nat) : List.replicate n (0 : Int) = I (List.replicate n 0) := by simp [I]
section
variable {n : Nat} {es : List (Nat × Nat)} (hv : Val n es)
include hv
theorem order_nodup {o : Nat} (ho : o < 2 ^ es.length) : (order n (arcs es o)).Nodup := by
  obtain ⟨_, m, hS, _⟩ := order_facts hv ho
  exact hS.nd
theorem game_order {o : Nat} (ho : o < 2 ^ es.length) : (∀ v ∈ order n (arcs es o), v < n) ∧ (order n (arcs es o)).Nodup ∧ (order n (arcs es o)).length ≤ 5 :=
  ⟨order_lt hv ho, order_nodup hv ho, Nat.le_trans (order_len hv ho) hv.le⟩
theorem impl_KernelGame_ev {o : Nat} (ho : o < 2 ^ es.length) (hp : plainB n (arcs es o) = true) : Ev (fun k => impl_KernelGame.f k n (mkE es) o) (I (gvals (nxt n (arcs es o)) n (order n (arcs es o))), true) := by
  have h5 := hv.le
  have hs := nxt_sets hv o
  obtain ⟨g1, g2, g3⟩ := game_order hv ho
  unfold impl_KernelGame.f
  refine Ev.bind (Ev.eq_ (impl_PlainIn_ev hv ho) hp) ?_
  simp only [if_true]
  refine Ev.bind (impl_nextOf_ev hv ho) ?_
  have hn : n ≤ 35184372088832 := by omega
  simp only [Int.natCast_nonneg, if_true, Int.toNat_natCast, if_pos hn]
  refine Ev.bind (impl_sorted_ev hv ho) ?_
  have e : wrap64 (((I (order n (arcs es o))).length : Int) - 1) = ((order n (arcs es o)).length : Int) - 1 := by rw [I_length]; exact wrap_int _ (by omega) (by omega)
  rw [e, I_zero]
  exact game_l0 h5 hs (order n (arcs es o)) g1 g2 g3 (order n (arcs es o)).length (order n (arcs es o)) [] (by simp) rfl
theorem impl_KernelGame_np {o : Nat} (ho : o < 2 ^ es.length) (hp : plainB n (arcs es o) = false) : Ev (fun k => impl_KernelGame.f k n (mkE es) o) ([], false) := by
  unfold impl_KernelGame.f
  refine Ev.bind (Ev.eq_ (impl_PlainIn_ev hv ho) hp) ?_
  simp only [Bool.false_eq_true, if_false]
  exact Ev.now _
end
theorem impl_KernelGame_no {a : Int} {l : List E} {o : Int} (h : Ev (fun k => impl_WayIn.f k a l o) false) : Ev (fun k => impl_KernelGame.f k a l o) ([], false) := by
  have hP : Ev (fun k => impl_PlainIn.f k a l o) false := by
    unfold impl_PlainIn.f
    refine Ev.bind h ?_
    simp only [Bool.false_eq_true, if_false]
    exact Ev.now _
  unfold impl_KernelGame.f
  refine Ev.bind hP ?_
  simp only [Bool.false_eq_true, if_false]
  exact Ev.now _
end Go.Proofs.Ytfijegfjpagjoaa.Q
