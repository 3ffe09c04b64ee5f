/- No directed edge stands twice. The graph is valid. -/
import Derived.Test.YtfijegfjpagjoaaQSem
namespace Go.Proofs.Ytfijegfjpagjoaa.Q
open Go.RowKit Go.Proofs.Ytfijegfjpagjoaa.G Go.Proofs.YtfijegfjpagjoaaW.PrintWords Go.Proofs.YtfijegfjpagjoaaW.PrintLast Go.Proofs.YtfijegfjpagjoaaW.PrintMore
set_option linter.unusedVariables false
set_option linter.unusedSimpArgs false
theorem arcs_ndP : ∀ (es : List (Nat × Nat)) (o : Nat), es.Pairwise plt → (∀ e ∈ es, e.1 < e.2) → (arcs es o).Nodup
  | [], _, _, _ => by simp [arcs]
  | x :: t, o, hp, hl => by
    rw [List.pairwise_cons] at hp
    simp only [arcs, List.nodup_cons]
    refine ⟨fun hm => ?_, arcs_ndP t (o / 2) hp.2 fun e he => hl e (List.mem_cons_of_mem _ he)⟩
    have hx := hl x List.mem_cons_self
    rcases arcs_mem_es t (o / 2) _ hm with h | h
    · by_cases ho : o % 2 = 1
      · rw [if_pos ho] at h
        have := hl _ (List.mem_cons_of_mem _ h)
        simp only at this; omega
      · rw [if_neg ho] at h
        have := hp.1 _ h
        unfold plt at this; omega
    · by_cases ho : o % 2 = 1
      · rw [if_pos ho] at h
        have := hp.1 _ h
        unfold plt at this; simp only at this; omega
      · rw [if_neg ho] at h
        have := hl _ (List.mem_cons_of_mem _ h)
        simp only at this; omega
end Go.Proofs.Ytfijegfjpagjoaa.Q
