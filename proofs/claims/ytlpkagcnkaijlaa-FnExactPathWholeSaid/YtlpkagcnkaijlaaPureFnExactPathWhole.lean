/- The law FnExactPathWhole returns true: for every graph, the program's PathWhole tells what the reference's tells. No condition but that the numbers are of 64 bits. -/
import Derived.Test.YtlpkagcnkaijlaaQPw
import Derived.Test.YtlpkagcnkaijlaaQLaw
import Derived.Test.YtlpkagcnkaijlaaG4
namespace Go.Proofs.Ytlpkagcnkaijlaa.Pure
open Go.RowKit Go.Proofs.Ytlpkagcnkaijlaa.G Go.Proofs.Ytlpkagcnkaijlaa.Q Go.Proofs.YtlpkagcnkaijlaaW.PrintWords
theorem FnExactPathWhole : ∀ (a0_0 : Int) (l0_1 : List S65), (Lit.int .i64 a0_0).wf = true → l0_1.length ≤ maxLen → (∀ e ∈ l0_1, (Lit.int .i64 e.f0).wf = true ∧ (Lit.int .i64 e.f1).wf = true) → ∃ k, laws_FnExactPathWhole.f k a0_0 l0_1 = some true := by
  intro a l wa hl he
  refine Ev.rounds (g := fun k => laws_FnExactPathWhole.f k a l) ?_
  obtain ⟨t, ht, hz⟩ := szGraph_eq a l hl
  unfold laws_FnExactPathWhole.f
  simp only [ht, Option.bind_some]
  rcases hz with hz | ⟨hz, h20⟩
  · simp only [hz, if_true]; exact Ev.now _
  · simp only [hz, if_false]
    obtain ⟨r, hi, hs⟩ := PathWhole_both (InR.of_wf wa) (conv_wf h20 he)
    refine Ev.bind (toGraph_ev a l h20) (Ev.bind hs (Ev.bind (toGraph_ev a l h20) (Ev.bind hi ?_)))
    simp only [bne_self_eq_false, Bool.false_eq_true, if_false]
    refine Ev.bind (toGraph_ev a l h20) (Ev.bind (eqGraph_ev a _ (by simpa using h20)) ?_)
    simp only [if_true]
    exact Ev.now _
end Go.Proofs.Ytlpkagcnkaijlaa.Pure
