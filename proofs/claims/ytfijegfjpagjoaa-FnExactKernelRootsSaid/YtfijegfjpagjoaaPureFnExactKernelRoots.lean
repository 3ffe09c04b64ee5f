/- The law FnExactKernelRoots returns true: for all arguments, the program's KernelRoots tells what the reference's tells. The numbers are of 64 bits. -/
import Derived.Test.YtfijegfjpagjoaaQRoots
import Derived.Test.YtfijegfjpagjoaaQLaw
import Derived.Test.YtfijegfjpagjoaaG40
namespace Go.Proofs.Ytfijegfjpagjoaa.Pure
open Go.RowKit Go.Proofs.Ytfijegfjpagjoaa.G Go.Proofs.Ytfijegfjpagjoaa.Q Go.Proofs.YtfijegfjpagjoaaW.PrintWords
theorem FnExactKernelRoots : ∀ (a0_0 : Int) (l0_1 : List S77) (a1 : Int), (Lit.int .i64 a0_0).wf = true → l0_1.length ≤ maxLen → (∀ e ∈ l0_1, (Lit.int .i64 e.f0).wf = true ∧ (Lit.int .i64 e.f1).wf = true) → (Lit.int .i64 a1).wf = true → ∃ k, laws_FnExactKernelRoots.f k a0_0 l0_1 a1 = some true := by
  intro a l a1 wa hl he wa1
  refine Ev.rounds (g := fun k => laws_FnExactKernelRoots.f k a l a1) ?_
  obtain ⟨t, ht, hz⟩ := szGraph_eq a l hl
  unfold laws_FnExactKernelRoots.f
  simp only [ht, Option.bind_some]
  rcases hz with hz | ⟨hz, h20⟩
  · simp only [hz, if_true]; exact Ev.now _
  · simp only [hz, if_false]
    obtain ⟨r, hi, hs⟩ := KernelRoots_both (InR.of_wf wa) (conv_wf h20 he) a1
    refine Ev.bind (toGraph_ev a l h20) (Ev.bind hs (Ev.bind (toGraph_ev a l h20) (Ev.bind hi ?_)))
    simp only [if_true, bne_self_eq_false]
    refine Ev.step (f := fun k => (laws_toGraph.f k a l).bind fun b => (laws_eqGraph.f k a (l.map conv) b.1 b.2).bind fun t => if t = true then some true else some false) (fun k => by simp only [laws_FnExactKernelRoots.j0, Bool.false_eq_true, if_false]) ?_
    refine Ev.bind (toGraph_ev a l h20) (Ev.bind (eqGraph_ev a _ (by simpa using h20)) ?_)
    simp only [if_true]
    exact Ev.now _
end Go.Proofs.Ytfijegfjpagjoaa.Pure
