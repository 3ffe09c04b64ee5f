/- The law FnExactKernelIn returns true: for all arguments, the program's KernelIn tells what the reference's tells. The numbers are of 64 bits. -/
import Derived.Test.YtlpkagcnkaijlaaQKer2
import Derived.Test.YtlpkagcnkaijlaaQLaw
import Derived.Test.YtlpkagcnkaijlaaG15
namespace Go.Proofs.Ytlpkagcnkaijlaa.Pure
open Go.RowKit Go.Proofs.Ytlpkagcnkaijlaa.G Go.Proofs.Ytlpkagcnkaijlaa.Q Go.Proofs.YtlpkagcnkaijlaaW.PrintWords
theorem FnExactKernelIn : ∀ (a0_0 : Int) (l0_1 : List S65) (a1 : Int) (a2 : Int), (Lit.int .i64 a0_0).wf = true → l0_1.length ≤ maxLen → (∀ e ∈ l0_1, (Lit.int .i64 e.f0).wf = true ∧ (Lit.int .i64 e.f1).wf = true) → (Lit.int .i64 a1).wf = true → (Lit.int .i64 a2).wf = true → ∃ k, laws_FnExactKernelIn.f k a0_0 l0_1 a1 a2 = some true := by
  intro a l a1 a2 wa hl he wa1 wa2
  refine Ev.rounds (g := fun k => laws_FnExactKernelIn.f k a l a1 a2) ?_
  obtain ⟨t, ht, hz⟩ := szGraph_eq a l hl
  unfold laws_FnExactKernelIn.f
  simp only [ht, Option.bind_some]
  rcases hz with hz | ⟨hz, h20⟩
  · simp only [hz, if_true]; exact Ev.now _
  · simp only [hz, if_false]
    obtain ⟨r, hi, hs⟩ := KernelIn_both (InR.of_wf wa) (conv_wf h20 he) a1 a2
    refine Ev.bind (toGraph_ev a l h20) (Ev.bind hs (Ev.bind (toGraph_ev a l h20) (Ev.bind hi ?_)))
    simp only [bne_self_eq_false, Bool.false_eq_true, if_false]
    refine Ev.bind (toGraph_ev a l h20) (Ev.bind (eqGraph_ev a _ (by simpa using h20)) ?_)
    simp only [if_true]
    exact Ev.now _
end Go.Proofs.Ytlpkagcnkaijlaa.Pure
