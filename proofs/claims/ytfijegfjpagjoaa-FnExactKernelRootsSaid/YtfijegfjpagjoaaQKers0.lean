/- Loops that list numbers. No condition. -/
import Derived.Test.YtfijegfjpagjoaaQSem
namespace Go.Proofs.Ytfijegfjpagjoaa.Q
open Go.RowKit Go.Proofs.Ytfijegfjpagjoaa.G Go.Proofs.YtfijegfjpagjoaaW.PrintWords Go.Proofs.YtfijegfjpagjoaaW.PrintLast Go.Proofs.YtfijegfjpagjoaaW.PrintMore
set_option linter.unusedVariables false
set_option linter.unusedSimpArgs false
/-- The numbers that are told, in order. -/
def sel (P : Nat → Bool) : Nat → Nat → List Nat
  | _, 0 => []
  | i, d + 1 => if P i then i :: sel P (i + 1) d else sel P (i + 1) d
theorem sel_len (P : Nat → Bool) : ∀ d i, (sel P i d).length = cnt P i d
  | 0, _ => by simp [sel, cnt]
  | d + 1, i => by
    simp only [sel, cnt]
    cases h : P i
    · rw [if_neg (by decide), sel_len P d (i + 1)]; simp
    · rw [if_pos rfl, List.length_cons, sel_len P d (i + 1)]; simp; omega
theorem sel_mem (P : Nat → Bool) (x : Nat) : ∀ d i, x ∈ sel P i d ↔ i ≤ x ∧ x < i + d ∧ P x = true
  | 0, i => by simp [sel]; omega
  | d + 1, i => by
    simp only [sel]
    cases h : P i
    · rw [if_neg (by decide), sel_mem P x d (i + 1)]
      constructor
      · rintro ⟨h1, h2, h3⟩; exact ⟨by omega, by omega, h3⟩
      · rintro ⟨h1, h2, h3⟩
        have : x ≠ i := fun e => by subst e; rw [h] at h3; exact absurd h3 (by decide)
        exact ⟨by omega, by omega, h3⟩
    · rw [if_pos rfl, List.mem_cons, sel_mem P x d (i + 1)]
      constructor
      · rintro (rfl | ⟨h1, h2, h3⟩)
        · exact ⟨by omega, by omega, h⟩
        · exact ⟨by omega, by omega, h3⟩
      · rintro ⟨h1, h2, h3⟩
        by_cases e : x = i
        · exact .inl e
        · exact .inr ⟨by omega, by omega, h3⟩
theorem sel_lt (P : Nat → Bool) (d i : Nat) : ∀ x ∈ sel P i d, x < i + d := fun x h => ((sel_mem P x d i).1 h).2.1
theorem cnt_pos (P : Nat → Bool) : ∀ d i, 0 < cnt P i d ↔ ∃ x, i ≤ x ∧ x < i + d ∧ P x = true := fun d i => by
  rw [← sel_len, List.length_pos_iff_exists_mem]
  exact ⟨fun ⟨x, h⟩ => ⟨x, (sel_mem P x d i).1 h⟩, fun ⟨x, h⟩ => ⟨x, (sel_mem P x d i).2 h⟩⟩
/-- A loop that lists. -/
theorem loop_sel {β : Type} (Lf : Nat → List Int → Int → Option β) (P : Nat → Bool) (N : Nat) (fin : List Int → β) (p : Nat → Nat → Option Bool) (hp : ∀ x, x < N → Ev (fun k => p k x) (P x))
    (hs : ∀ (k : Nat) (s : List Int) (i : Nat), i < N → s.length ≤ i → Lf (k + 1) s (i : Int) = (p k i).bind fun t => if t = true then Lf k (s ++ [(i : Int)]) ((i + 1 : Nat) : Int) else Lf k s ((i + 1 : Nat) : Int))
    (he : ∀ (k : Nat) (s : List Int), Lf (k + 1) s (N : Int) = some (fin s)) : ∀ (d i : Nat) (s : List Int), i + d = N → s.length ≤ i → Ev (fun k => Lf k s (i : Int)) (fin (s ++ I (sel P i d)))
  | 0, i, s, h, hc => by
    have : i = N := by omega
    subst this
    exact Ev.step (f := fun _ => some (fin s)) (fun k => he k s) (Ev.eq_ (Ev.now _) (by simp [sel, I]))
  | d + 1, i, s, h, hc => by
    refine Ev.step (fun k => hs k s i (by omega) hc) (Ev.bind (hp i (by omega)) ?_)
    cases hP : P i with
    | true =>
      simp only [if_true]
      exact Ev.eq_ (loop_sel Lf P N fin p hp hs he d (i + 1) (s ++ [(i : Int)]) (by omega) (by simp; omega)) (by simp [sel, hP, I])
    | false =>
      simp only [Bool.false_eq_true, if_false]
      exact Ev.eq_ (loop_sel Lf P N fin p hp hs he d (i + 1) s (by omega) (by omega)) (by simp [sel, hP, I])
end Go.Proofs.Ytfijegfjpagjoaa.Q
