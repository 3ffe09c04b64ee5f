/- Both PathFirst tell the same list. The numbers are of 64 bits. -/
import Derived.Test.YtfijegfjpagjoaaQLongest
import Derived.Test.YtfijegfjpagjoaaQPathsS
import Derived.Test.YtfijegfjpagjoaaG22
namespace Go.Proofs.Ytfijegfjpagjoaa.Q
open Go.RowKit Go.Proofs.Ytfijegfjpagjoaa.G Go.Proofs.YtfijegfjpagjoaaW.PrintWords Go.Proofs.YtfijegfjpagjoaaW.PrintLast Go.Proofs.YtfijegfjpagjoaaW.PrintMore
set_option linter.unusedVariables false
set_option linter.unusedSimpArgs false
set_option linter.unusedSectionVars false
section
variable {n : Nat} {es : List (Nat × Nat)} (hv : Val n es)
include hv
theorem impl_PathFirst_ev {o : Nat} (ho : o < 2 ^ es.length) : Ev (fun k => impl_PathFirst.f k n (mkE es) o) (I (longP (nxt n (arcs es o)) n), true) := by
  unfold impl_PathFirst.f
  refine Ev.bind (impl_WayIn_yes hv ho) ?_
  simp only [if_true]
  refine Ev.bind (impl_longest_ev hv ho) ?_
  exact Ev.now _
theorem spec_PathFirst_ev {o : Nat} (ho : o < 2 ^ es.length) : Ev (fun k => spec_PathFirst.f k n (mkE es) o) (I (longP (nxt n (arcs es o)) n), true) := by
  unfold spec_PathFirst.f
  refine Ev.bind (spec_WayIn_yes hv ho) ?_
  simp only [if_true]
  refine Ev.bind (spec_l7Path_ev hv ho) ?_
  exact Ev.now _
end
theorem impl_PathFirst_no {a : Int} {l : List E} {o : Int} (h : Ev (fun k => impl_WayIn.f k a l o) false) : Ev (fun k => impl_PathFirst.f k a l o) (([] : List Int), false) := by
  unfold impl_PathFirst.f
  refine Ev.bind h ?_
  simp only [Bool.false_eq_true, if_false]
  exact Ev.now _
theorem spec_PathFirst_no {a : Int} {l : List E} {o : Int} (h : Ev (fun k => spec_WayIn.f k a l o) false) : Ev (fun k => spec_PathFirst.f k a l o) (([] : List Int), false) := by
  unfold spec_PathFirst.f
  refine Ev.bind h ?_
  simp only [Bool.false_eq_true, if_false]
  exact Ev.now _
theorem PathFirst_both {a : Int} (ha : InR a) {l : List E} (hl : WfE l) (o : Int) : ∃ (r : List Nat) (b : Bool), r.length ≤ 5 ∧ Ev (fun k => impl_PathFirst.f k a l o) (I r, b) ∧ Ev (fun k => spec_PathFirst.f k a l o) (I r, b) := by
  rcases way_split ha hl o with ⟨n, es, o', rfl, rfl, rfl, hv, ho⟩ | ⟨h1, h2⟩
  · exact ⟨_, true, Nat.le_trans (longP_len hv _) hv.le, impl_PathFirst_ev hv ho, spec_PathFirst_ev hv ho⟩
  · exact ⟨[], false, by simp, impl_PathFirst_no h1, spec_PathFirst_no h2⟩
end Go.Proofs.Ytfijegfjpagjoaa.Q
