/- Both PathWhole: whether twice the edges are the nodes times the nodes less one. -/
import Derived.Test.YtfijegfjpagjoaaQArc
import Derived.Test.YtfijegfjpagjoaaG24
namespace Go.Proofs.Ytfijegfjpagjoaa.Q
open Go.RowKit Go.Proofs.Ytfijegfjpagjoaa.G Go.Proofs.YtfijegfjpagjoaaW.PrintWords Go.Proofs.YtfijegfjpagjoaaW.PrintLast Go.Proofs.YtfijegfjpagjoaaW.PrintMore
set_option linter.unusedVariables false
set_option linter.unusedSimpArgs false
theorem five {n : Nat} (h : 1 ≤ n) (h' : n ≤ 5) : n = 1 ∨ n = 2 ∨ n = 3 ∨ n = 4 ∨ n = 5 := by omega
theorem impl_PathWhole_no {a : Int} {l : List E} (hl : WfE l) (h : isG a l = false) : Ev (fun k => impl_PathWhole.f k a l) false := by
  unfold impl_PathWhole.f
  refine Ev.bind (h ▸ impl_WayGraph_ev a l hl) ?_
  simp only [Bool.false_eq_true, if_false]
  exact Ev.now _
def wholeB (n : Nat) (es : List (Nat × Nat)) : Bool := decide (2 * es.length = n * (n - 1))
theorem impl_PathWhole_ev {n : Nat} {es : List (Nat × Nat)} (hv : Val n es) : Ev (fun k => impl_PathWhole.f k n (mkE es)) (wholeB n es) := by
  unfold impl_PathWhole.f
  refine Ev.bind (impl_G hv) ?_
  simp only [if_true]
  refine Ev.eq_ (Ev.now _) ?_
  have hl := hv.len
  rw [mkE_length, Bool.eq_iff_iff]
  simp only [wholeB, beq_iff_eq, decide_eq_true_eq]
  rcases five hv.pos hv.le with rfl | rfl | rfl | rfl | rfl
  · have e : wrap64 (Int.tdiv (wrap64 (((1 : Nat) : Int) * wrap64 (((1 : Nat) : Int) - 1))) 2) = 0 := by decide +kernel
    rw [e]; omega
  · have e : wrap64 (Int.tdiv (wrap64 (((2 : Nat) : Int) * wrap64 (((2 : Nat) : Int) - 1))) 2) = 1 := by decide +kernel
    rw [e]; omega
  · have e : wrap64 (Int.tdiv (wrap64 (((3 : Nat) : Int) * wrap64 (((3 : Nat) : Int) - 1))) 2) = 3 := by decide +kernel
    rw [e]; omega
  · have e : wrap64 (Int.tdiv (wrap64 (((4 : Nat) : Int) * wrap64 (((4 : Nat) : Int) - 1))) 2) = 6 := by decide +kernel
    rw [e]; omega
  · have e : wrap64 (Int.tdiv (wrap64 (((5 : Nat) : Int) * wrap64 (((5 : Nat) : Int) - 1))) 2) = 10 := by decide +kernel
    rw [e]; omega
end Go.Proofs.Ytfijegfjpagjoaa.Q
