/- The law FnScoreFirst returns true. The elements of the code are bytes. -/
import Derived.Test.YtfijegfjpagjoaaQSIs
import Derived.Test.YtfijegfjpagjoaaQSFirst
import Derived.Test.YtfijegfjpagjoaaQDrawRow
import Derived.Test.YtfijegfjpagjoaaG48
namespace Go.Proofs.Ytfijegfjpagjoaa.Q
theorem fstD_row (n : Nat) (es : List (Nat × Nat)) (row : List Int) : ∀ d x, (fstD n es row x d).2 = true → ∃ y, I (deg n (arcs es y)) = row
  | 0, x, h => by simp [fstD] at h
  | d + 1, x, h => by
    simp only [fstD] at h
    by_cases e : I (deg n (arcs es x)) = row
    · exact ⟨x, e⟩
    · rw [if_neg e] at h
      exact fstD_row n es row d (x + 1) h
end Go.Proofs.Ytfijegfjpagjoaa.Q
namespace Go.Proofs.Ytfijegfjpagjoaa.Pure
open Go.RowKit Go.Proofs.Ytfijegfjpagjoaa.G Go.Proofs.Ytfijegfjpagjoaa.Q Go.Proofs.YtfijegfjpagjoaaW.PrintWords Go.Proofs.YtfijegfjpagjoaaW.PrintLast Go.Proofs.YtfijegfjpagjoaaW.PrintMore
set_option linter.unusedVariables false
set_option linter.unusedSimpArgs false
theorem FnScoreFirst : laws_FnScoreFirst.Pure := by
  intro code _ _ hcode
  refine Ev.rounds (g := fun k => laws_FnScoreFirst.f k code) ?_
  obtain ⟨a, l, row, hg, ha, hl, hr⟩ := l92Row_ev hcode
  have hD : Ev (fun k => spec_DrawScoreFirst.f k code) (a, l, row) := by
    unfold spec_DrawScoreFirst.f
    exact Ev.bind hg (Ev.now _)
  unfold laws_FnScoreFirst.f
  by_cases hc : (code.length : Int) > 1048576
  · simp only [hc, if_true]; exact Ev.now _
  · simp only [hc, if_false]
    refine Ev.bind hD ?_
    cases h : isG a l with
    | true =>
      obtain ⟨n, es, rfl, rfl, hv⟩ := isG_mk h
      have hrow : row.length ≤ 1048576 := by omega
      have hy := fstD_row n es row (2 ^ es.length) 0
      refine Ev.bind (impl_ScoreFirst_ev hv row hrow) (Ev.bind (spec_ScoreFirst_ev hv row hrow) ?_)
      generalize fstD n es row 0 (2 ^ es.length) = r at *
      simp only [bne_self_eq_false, Bool.false_eq_true, if_false, if_true, beq_self_eq_true]
      by_cases hb : r.2 = true
      · simp only [if_pos hb]
        obtain ⟨y, hy⟩ := hy hb
        rw [← hy]
        exact Ev.bind (impl_ScoreIs_deg hv y) (Ev.now _)
      · simp only [if_neg hb]; exact Ev.now _
    | false =>
      have h1 : Ev (fun k => impl_ScoreFirst.f k a l row) (0, false) := by
        unfold impl_ScoreFirst.f
        refine Ev.bind (Ev.eq_ (impl_WayGraph_ev a l hl) h) ?_
        simp only [Bool.false_eq_true, if_false]
        exact Ev.now _
      have h2 : Ev (fun k => spec_ScoreFirst.f k a l row) (0, false) := by
        unfold spec_ScoreFirst.f
        refine Ev.bind (Ev.eq_ (spec_WayGraph_ev a ha l hl) h) ?_
        simp only [Bool.false_eq_true, if_false]
        exact Ev.now _
      refine Ev.bind h1 (Ev.bind h2 ?_)
      simp only [bne_self_eq_false, Bool.false_eq_true, if_false, if_true, beq_self_eq_true]
      exact Ev.now _
end Go.Proofs.Ytfijegfjpagjoaa.Pure
