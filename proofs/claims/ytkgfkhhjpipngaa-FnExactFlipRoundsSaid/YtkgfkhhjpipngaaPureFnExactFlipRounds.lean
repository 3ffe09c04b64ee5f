/- The law FnExactFlipRounds returns true: for all arguments, the program's FlipRounds lists what the reference's lists. The numbers are of 64 bits. -/
import Derived.Test.YtkgfkhhjpipngaaQRnds
import Derived.Test.YtkgfkhhjpipngaaQLawS
import Derived.Test.YtkgfkhhjpipngaaG45
namespace Go.Proofs.Ytkgfkhhjpipngaa.Q
open Go.RowKit Go.Proofs.Ytkgfkhhjpipngaa.G Go.Proofs.YtkgfkhhjpipngaaW.PrintWords Go.Proofs.YtkgfkhhjpipngaaW.PrintLast Go.Proofs.YtkgfkhhjpipngaaW.PrintMore
theorem FlipRounds_both {a : Int} (ha : InR a) {l : List E} (hl : WfE l) (o : Int) : ∃ (r : List Int) (b : Bool), r.length ≤ 1000000 ∧ Ev (fun k => impl_FlipRounds.f k a l o) (r, b) ∧ Ev (fun k => spec_FlipRounds.f k a l o) (r, b) := by
  rcases way_split ha hl o with ⟨n, es, o', rfl, rfl, rfl, hv, ho⟩ | ⟨h1, h2⟩
  · refine ⟨rounds n es o', true, rounds_len2 hv ho, ?_, ?_⟩
    · unfold impl_FlipRounds.f
      refine Ev.bind (impl_WayIn_yes hv ho) ?_
      simp only [if_true]
      exact Ev.bind (impl_byRounds_ev hv ho) (Ev.now _)
    · unfold spec_FlipRounds.f
      refine Ev.bind (spec_WayIn_yes hv ho) ?_
      simp only [if_true]
      exact Ev.bind (spec_l5Rounds_ev hv ho) (Ev.now _)
  · refine ⟨[], false, by simp, ?_, ?_⟩
    · unfold impl_FlipRounds.f
      refine Ev.bind h1 ?_
      simp only [Bool.false_eq_true, if_false]
      exact Ev.now _
    · unfold spec_FlipRounds.f
      refine Ev.bind h2 ?_
      simp only [Bool.false_eq_true, if_false]
      exact Ev.now _
end Go.Proofs.Ytkgfkhhjpipngaa.Q
namespace Go.Proofs.Ytkgfkhhjpipngaa.Pure
open Go.RowKit Go.Proofs.Ytkgfkhhjpipngaa.G Go.Proofs.Ytkgfkhhjpipngaa.Q Go.Proofs.YtkgfkhhjpipngaaW.PrintWords
theorem FnExactFlipRounds : ∀ (a0_0 : Int) (l0_1 : List S96) (a1 : Int), (Lit.int .i64 a0_0).wf = true → l0_1.length ≤ maxLen → (∀ e ∈ l0_1, (Lit.int .i64 e.f0).wf = true ∧ (Lit.int .i64 e.f1).wf = true) → (Lit.int .i64 a1).wf = true → ∃ k, laws_FnExactFlipRounds.f k a0_0 l0_1 a1 = some true := by
  intro a l o wa hl he wo
  refine Ev.rounds (g := fun k => laws_FnExactFlipRounds.f k a l o) ?_
  obtain ⟨t, ht, hz⟩ := szGraph_eq a l hl
  unfold laws_FnExactFlipRounds.f
  simp only [ht, Option.bind_some]
  rcases hz with hz | ⟨hz, h20⟩
  · simp only [hz, if_true]; exact Ev.now _
  · simp only [hz, if_false]
    obtain ⟨r, b, hrl, hi, hs⟩ := FlipRounds_both (InR.of_wf wa) (conv_wf h20 he) o
    have hI : r.length ≤ 1048576 := by omega
    obtain ⟨m, hm, hm0⟩ := markGraph_ev a (l.map conv) (by simpa using h20)
    have hg := eqGraph_ev a (l.map conv) (by simpa using h20)
    have he := eqIntS_ev r hI
    have hk := markIntS_ev r hI
    have hh := heldIntS_ev r.length hI
    have hneg : ¬ ((r.length + 1 : Nat) : Int) < 0 := by omega
    refine Ev.bind (toGraph_ev a l h20) (Ev.bind hs (Ev.bind (toGraph_ev a l h20) (Ev.bind hi (Ev.bind he ?_))))
    simp only [if_true, bne_self_eq_false]
    refine Ev.step (fun k => by simp only [laws_FnExactFlipRounds.j0, Bool.false_eq_true, if_false]; rfl) ?_
    refine Ev.bind (toGraph_ev a l h20) (Ev.bind hg ?_)
    simp only [if_true]
    refine Ev.bind hm ?_
    simp only [hm0, if_false]
    refine Ev.bind he ?_
    simp only [if_true, bne_self_eq_false]
    refine Ev.step (fun k => by simp only [laws_FnExactFlipRounds.j1, Bool.false_eq_true, if_false]; rfl) ?_
    refine Ev.bind hk ?_
    refine Ev.bind hh ?_
    simp only [hneg, if_false, if_true]
    refine Ev.bind (toGraph_ev a l h20) (Ev.bind hi (Ev.bind he ?_))
    simp only [if_true, bne_self_eq_false]
    refine Ev.step (fun k => by simp only [laws_FnExactFlipRounds.j2, Bool.false_eq_true, if_false]; rfl) ?_
    refine Ev.bind hh ?_
    simp only [hneg, if_false, if_true]
    exact Ev.now _
end Go.Proofs.Ytkgfkhhjpipngaa.Pure
