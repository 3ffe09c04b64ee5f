/- The law FnExactPathFirst returns true: for all arguments, the program's PathFirst lists what the reference's lists. The numbers are of 64 bits. -/
import Derived.Test.YtfijegfjpagjoaaQPFirst
import Derived.Test.YtfijegfjpagjoaaQLawS
import Derived.Test.YtfijegfjpagjoaaG28
namespace Go.Proofs.Ytfijegfjpagjoaa.Pure
open Go.RowKit Go.Proofs.Ytfijegfjpagjoaa.G Go.Proofs.Ytfijegfjpagjoaa.Q Go.Proofs.YtfijegfjpagjoaaW.PrintWords
theorem FnExactPathFirst : ∀ (a0_0 : Int) (l0_1 : List S77) (a1 : Int), (Lit.int .i64 a0_0).wf = true → l0_1.length ≤ maxLen → (∀ e ∈ l0_1, (Lit.int .i64 e.f0).wf = true ∧ (Lit.int .i64 e.f1).wf = true) → (Lit.int .i64 a1).wf = true → ∃ k, laws_FnExactPathFirst.f k a0_0 l0_1 a1 = some true := by
  intro a l o wa hl he wo
  refine Ev.rounds (g := fun k => laws_FnExactPathFirst.f k a l o) ?_
  obtain ⟨t, ht, hz⟩ := szGraph_eq a l hl
  unfold laws_FnExactPathFirst.f
  simp only [ht, Option.bind_some]
  rcases hz with hz | ⟨hz, h20⟩
  · simp only [hz, if_true]; exact Ev.now _
  · simp only [hz, if_false]
    obtain ⟨r, b, hrl, hi, hs⟩ := PathFirst_both (InR.of_wf wa) (conv_wf h20 he) o
    have hI : (I r).length ≤ 1048576 := by rw [I_length]; omega
    generalize I r = r at hi hs hI
    obtain ⟨m, hm, hm0⟩ := markGraph_ev a (l.map conv) (by simpa using h20)
    have hg := eqGraph_ev a (l.map conv) (by simpa using h20)
    have he := eqIntS_ev r hI
    have hk := markIntS_ev r hI
    have hh := heldIntS_ev r.length hI
    have hneg : ¬ ((r.length + 1 : Nat) : Int) < 0 := by omega
    refine Ev.bind (toGraph_ev a l h20) (Ev.bind hs (Ev.bind (toGraph_ev a l h20) (Ev.bind hi (Ev.bind he ?_))))
    simp only [if_true, bne_self_eq_false]
    refine Ev.step (fun k => by simp only [laws_FnExactPathFirst.j0, Bool.false_eq_true, if_false]; rfl) ?_
    refine Ev.bind (toGraph_ev a l h20) (Ev.bind hg ?_)
    simp only [if_true]
    refine Ev.bind hm ?_
    simp only [hm0, if_false]
    refine Ev.bind he ?_
    simp only [if_true, bne_self_eq_false]
    refine Ev.step (fun k => by simp only [laws_FnExactPathFirst.j1, Bool.false_eq_true, if_false]; rfl) ?_
    refine Ev.bind hk ?_
    refine Ev.bind hh ?_
    simp only [hneg, if_false, if_true]
    refine Ev.bind (toGraph_ev a l h20) (Ev.bind hi (Ev.bind he ?_))
    simp only [if_true, bne_self_eq_false]
    refine Ev.step (fun k => by simp only [laws_FnExactPathFirst.j2, Bool.false_eq_true, if_false]; rfl) ?_
    refine Ev.bind hh ?_
    simp only [hneg, if_false, if_true]
    exact Ev.now _
end Go.Proofs.Ytfijegfjpagjoaa.Pure
