/- The program's PlainIn and WayTurned. The graph is valid. -/
import Derived.Test.YtfijegfjpagjoaaQPlain
import Derived.Test.YtfijegfjpagjoaaG37
namespace Go.Proofs.Ytfijegfjpagjoaa.Q
open Go.RowKit Go.Proofs.Ytfijegfjpagjoaa.G Go.Proofs.YtfijegfjpagjoaaW.PrintWords Go.Proofs.YtfijegfjpagjoaaW.PrintLast Go.Proofs.YtfijegfjpagjoaaW.PrintMore
theorem impl_PlainIn_ev {n : Nat} {es : List (Nat × Nat)} (hv : Val n es) {o : Nat} (ho : o < 2 ^ es.length) : Ev (fun k => impl_PlainIn.f k n (mkE es) o) (plainB n (arcs es o)) := by
  unfold impl_PlainIn.f
  refine Ev.bind (impl_WayIn_yes hv ho) ?_
  simp only [if_true]
  exact Ev.bind (impl_isPlain_ev hv ho) (Ev.now _)
end Go.Proofs.Ytfijegfjpagjoaa.Q
