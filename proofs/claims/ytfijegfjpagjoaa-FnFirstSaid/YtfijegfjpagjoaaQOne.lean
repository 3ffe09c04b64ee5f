/- The draw of a graph and a direction from a code. The code's elements are bytes. -/
import Derived.Test.YtfijegfjpagjoaaQDrawOne
import Derived.Test.YtfijegfjpagjoaaQArc
import Derived.Test.YtfijegfjpagjoaaG20
namespace Go.Proofs.Ytfijegfjpagjoaa.Q
open Go.RowKit Go.Proofs.Ytfijegfjpagjoaa.G Go.Proofs.YtfijegfjpagjoaaW.PrintWords Go.Proofs.YtfijegfjpagjoaaW.PrintLast Go.Proofs.YtfijegfjpagjoaaW.PrintMore
theorem l91One_ev {code : List Int} (h : ∀ x ∈ code, (Lit.int .u8 x).wf = true) : ∃ (a : Int) (l : List E) (o : Int), Ev (fun k => spec_l91One.f k code) (a, l, o) ∧ InR a ∧ WfE l := by
  obtain ⟨b, hb, hB⟩ := l6Open_eq (bytes_of_wf h)
  obtain ⟨m, l, q, hg, hd⟩ := l91Graph_ev hB 0 (by omega)
  obtain ⟨o, q', hw, _⟩ := l91Way_ev hB hd (by omega)
  refine ⟨(m : Int), l, o, ?_, hd.inR, hd.wf⟩
  unfold spec_l91One.f
  simp only [hb, Option.bind_some]
  exact Ev.bind hg (Ev.bind hw (Ev.now _))
end Go.Proofs.Ytfijegfjpagjoaa.Q
