/- The law FnExactKernelGame returns true: for all arguments, the program's KernelGame lists what the reference's lists. The numbers are of 64 bits. -/
import Derived.Test.YtfijegfjpagjoaaQGameS
import Derived.Test.YtfijegfjpagjoaaQLawS
import Derived.Test.YtfijegfjpagjoaaG38
namespace Go.Proofs.Ytfijegfjpagjoaa.Q
open Go.RowKit Go.Proofs.Ytfijegfjpagjoaa.G Go.Proofs.YtfijegfjpagjoaaW.PrintWords Go.Proofs.YtfijegfjpagjoaaW.PrintLast Go.Proofs.YtfijegfjpagjoaaW.PrintMore
theorem KernelGame_both {a : Int} (ha : InR a) {l : List E} (hl : WfE l) (o : Int) : ∃ (r : List Nat) (b : Bool), r.length ≤ 5 ∧ Ev (fun k => impl_KernelGame.f k a l o) (I r, b) ∧ Ev (fun k => spec_KernelGame.f k a l o) (I r, b) := by
  rcases way_split ha hl o with ⟨n, es, o', rfl, rfl, rfl, hv, ho⟩ | ⟨h1, h2⟩
  · cases hp : plainB n (arcs es o') with
    | true => exact ⟨_, true, by rw [gvals_len]; exact hv.le, impl_KernelGame_ev hv ho hp, spec_KernelGame_ev hv ho hp⟩
    | false => exact ⟨[], false, by simp, impl_KernelGame_np hv ho hp, specGame_end0 (spec_PlainOrder_no hv ho hp)⟩
  · exact ⟨[], false, by simp, impl_KernelGame_no h1, specGame_end0 (spec_KernelGame_no h2)⟩
end Go.Proofs.Ytfijegfjpagjoaa.Q
namespace Go.Proofs.Ytfijegfjpagjoaa.Pure
open Go.RowKit Go.Proofs.Ytfijegfjpagjoaa.G Go.Proofs.Ytfijegfjpagjoaa.Q Go.Proofs.YtfijegfjpagjoaaW.PrintWords
theorem FnExactKernelGame : ∀ (a0_0 : Int) (l0_1 : List S77) (a1 : Int), (Lit.int .i64 a0_0).wf = true → l0_1.length ≤ maxLen → (∀ e ∈ l0_1, (Lit.int .i64 e.f0).wf = true ∧ (Lit.int .i64 e.f1).wf = true) → (Lit.int .i64 a1).wf = true → ∃ k, laws_FnExactKernelGame.f k a0_0 l0_1 a1 = some true := by
  intro a l o wa hl he wo
  refine Ev.rounds (g := fun k => laws_FnExactKernelGame.f k a l o) ?_
  obtain ⟨t, ht, hz⟩ := szGraph_eq a l hl
  unfold laws_FnExactKernelGame.f
  simp only [ht, Option.bind_some]
  rcases hz with hz | ⟨hz, h20⟩
  · simp only [hz, if_true]; exact Ev.now _
  · simp only [hz, if_false]
    obtain ⟨r, b, hrl, hi, hs⟩ := KernelGame_both (InR.of_wf wa) (conv_wf h20 he) o
    have hI : (I r).length ≤ 1048576 := by rw [I_length]; omega
    generalize I r = r at hi hs hI
    obtain ⟨m, hm, hm0⟩ := markGraph_ev a (l.map conv) (by simpa using h20)
    have hg := eqGraph_ev a (l.map conv) (by simpa using h20)
    have he := eqIntS_ev r hI
    have hk := markIntS_ev r hI
    have hh := heldIntS_ev r.length hI
    have hneg : ¬ ((r.length + 1 : Nat) : Int) < 0 := by omega
    refine Ev.bind (toGraph_ev a l h20) (Ev.bind hs (Ev.bind (toGraph_ev a l h20) (Ev.bind hi (Ev.bind he ?_))))
    simp only [if_true, bne_self_eq_false]
    refine Ev.step (fun k => by simp only [laws_FnExactKernelGame.j0, Bool.false_eq_true, if_false]; rfl) ?_
    refine Ev.bind (toGraph_ev a l h20) (Ev.bind hg ?_)
    simp only [if_true]
    refine Ev.bind hm ?_
    simp only [hm0, if_false]
    refine Ev.bind he ?_
    simp only [if_true, bne_self_eq_false]
    refine Ev.step (fun k => by simp only [laws_FnExactKernelGame.j1, Bool.false_eq_true, if_false]; rfl) ?_
    refine Ev.bind hk ?_
    refine Ev.bind hh ?_
    simp only [hneg, if_false, if_true]
    refine Ev.bind (toGraph_ev a l h20) (Ev.bind hi (Ev.bind he ?_))
    simp only [if_true, bne_self_eq_false]
    refine Ev.step (fun k => by simp only [laws_FnExactKernelGame.j2, Bool.false_eq_true, if_false]; rfl) ?_
    refine Ev.bind hh ?_
    simp only [hneg, if_false, if_true]
    exact Ev.now _
end Go.Proofs.Ytfijegfjpagjoaa.Pure
