/- WayOut tells the outdegrees. The graph is valid. -/
import Derived.Test.YtfhchpfelndejaaQOut
import Derived.Test.YtfhchpfelndejaaG32
namespace Go.Proofs.Ytfhchpfelndejaa.Q
open Go.RowKit Go.Proofs.Ytfhchpfelndejaa.G Go.Proofs.YtfhchpfelndejaaW.PrintWords Go.Proofs.YtfhchpfelndejaaW.PrintLast Go.Proofs.YtfhchpfelndejaaW.PrintMore
section
variable {n : Nat} {es : List (Nat × Nat)} (hv : Val n es)
include hv
theorem impl_WayOut_ev {o : Nat} (ho : o < 2 ^ es.length) : Ev (fun k => impl_WayOut.f k n (mkE es) o) (I (deg n (arcs es o)), true) := by
  unfold impl_WayOut.f
  refine Ev.bind (impl_WayIn_yes hv ho) ?_
  simp only [if_true]
  exact Ev.bind (impl_outOf_ev hv ho) (Ev.now _)
end
end Go.Proofs.Ytfhchpfelndejaa.Q
