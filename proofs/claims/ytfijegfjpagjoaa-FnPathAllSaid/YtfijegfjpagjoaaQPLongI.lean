/- The program's PathLongest. The graph is valid. -/
import Derived.Test.YtfijegfjpagjoaaQLongest
import Derived.Test.YtfijegfjpagjoaaG13
namespace Go.Proofs.Ytfijegfjpagjoaa.Q
open Go.RowKit Go.Proofs.Ytfijegfjpagjoaa.G Go.Proofs.YtfijegfjpagjoaaW.PrintWords Go.Proofs.YtfijegfjpagjoaaW.PrintLast Go.Proofs.YtfijegfjpagjoaaW.PrintMore
set_option linter.unusedVariables false
set_option linter.unusedSimpArgs false
set_option linter.unusedSectionVars false
section
variable {n : Nat} {es : List (Nat × Nat)} (hv : Val n es)
include hv
theorem impl_PathLongest_ev {o : Nat} (ho : o < 2 ^ es.length) : Ev (fun k => impl_PathLongest.f k n (mkE es) o) (((longP (nxt n (arcs es o)) n).length : Int), true) := by
  unfold impl_PathLongest.f
  refine Ev.bind (impl_WayIn_yes hv ho) ?_
  simp only [if_true]
  refine Ev.bind (impl_longest_ev hv ho) ?_
  rw [I_length]; exact Ev.now _
end
theorem impl_PathLongest_no {a : Int} {l : List E} {o : Int} (h : Ev (fun k => impl_WayIn.f k a l o) false) : Ev (fun k => impl_PathLongest.f k a l o) (0, false) := by
  unfold impl_PathLongest.f
  refine Ev.bind h ?_
  simp only [Bool.false_eq_true, if_false]
  exact Ev.now _
end Go.Proofs.Ytfijegfjpagjoaa.Q
