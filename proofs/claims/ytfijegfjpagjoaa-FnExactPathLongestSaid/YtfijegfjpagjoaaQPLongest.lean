/- Both PathLongest tell the same number. The numbers are of 64 bits. -/
import Derived.Test.YtfijegfjpagjoaaQLongest
import Derived.Test.YtfijegfjpagjoaaQPathsS
import Derived.Test.YtfijegfjpagjoaaG13
import Derived.Test.YtfijegfjpagjoaaG10
namespace Go.Proofs.Ytfijegfjpagjoaa.Q
open Go.RowKit Go.Proofs.Ytfijegfjpagjoaa.G Go.Proofs.YtfijegfjpagjoaaW.PrintWords Go.Proofs.YtfijegfjpagjoaaW.PrintLast Go.Proofs.YtfijegfjpagjoaaW.PrintMore
set_option linter.unusedVariables false
set_option linter.unusedSimpArgs false
set_option linter.unusedSectionVars false
section
variable {n : Nat} {es : List (Nat × Nat)} (hv : Val n es)
include hv
theorem impl_PathLongest_ev {o : Nat} (ho : o < 2 ^ es.length) : Ev (fun k => impl_PathLongest.f k n (mkE es) o) (((longP (nxt n (arcs es o)) n).length : Int), true) := by
  unfold impl_PathLongest.f
  refine Ev.bind (impl_WayIn_yes hv ho) ?_
  simp only [if_true]
  refine Ev.bind (impl_longest_ev hv ho) ?_
  rw [I_length]; exact Ev.now _
theorem spec_PathLongest_ev {o : Nat} (ho : o < 2 ^ es.length) : Ev (fun k => spec_PathLongest.f k n (mkE es) o) (((longP (nxt n (arcs es o)) n).length : Int), true) := by
  unfold spec_PathLongest.f
  refine Ev.bind (spec_WayIn_yes hv ho) ?_
  simp only [if_true]
  refine Ev.bind (spec_l7Path_ev hv ho) ?_
  rw [I_length]; exact Ev.now _
end
theorem impl_PathLongest_no {a : Int} {l : List E} {o : Int} (h : Ev (fun k => impl_WayIn.f k a l o) false) : Ev (fun k => impl_PathLongest.f k a l o) (0, false) := by
  unfold impl_PathLongest.f
  refine Ev.bind h ?_
  simp only [Bool.false_eq_true, if_false]
  exact Ev.now _
theorem spec_PathLongest_no {a : Int} {l : List E} {o : Int} (h : Ev (fun k => spec_WayIn.f k a l o) false) : Ev (fun k => spec_PathLongest.f k a l o) (0, false) := by
  unfold spec_PathLongest.f
  refine Ev.bind h ?_
  simp only [Bool.false_eq_true, if_false]
  exact Ev.now _
theorem PathLongest_both {a : Int} (ha : InR a) {l : List E} (hl : WfE l) (o : Int) : ∃ r, Ev (fun k => impl_PathLongest.f k a l o) r ∧ Ev (fun k => spec_PathLongest.f k a l o) r := by
  rcases way_split ha hl o with ⟨n, es, o', rfl, rfl, rfl, hv, ho⟩ | ⟨h1, h2⟩
  · exact ⟨_, impl_PathLongest_ev hv ho, spec_PathLongest_ev hv ho⟩
  · exact ⟨(0, false), impl_PathLongest_no h1, spec_PathLongest_no h2⟩
end Go.Proofs.Ytfijegfjpagjoaa.Q
