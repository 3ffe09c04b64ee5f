/- What is reached from a node: the least closed set; reachOf tells it. The sets are of five nodes at most. -/
import Derived.Test.YtfijegfjpagjoaaQReachL
import Derived.Test.YtfijegfjpagjoaaQOnes
import Derived.Test.YtfijegfjpagjoaaQSem
namespace Go.Proofs.Ytfijegfjpagjoaa.Q
open Go.RowKit Go.Proofs.Ytfijegfjpagjoaa.G Go.Proofs.YtfijegfjpagjoaaW.PrintWords Go.Proofs.YtfijegfjpagjoaaW.PrintLast Go.Proofs.YtfijegfjpagjoaaW.PrintMore
set_option linter.unusedVariables false
set_option linter.unusedSimpArgs false
theorem pass_bit (s : List Nat) (f w : Nat) : ∀ d i r, (pass s f d i r).testBit w = true ↔ r.testBit w = true ∨ ∃ j, i ≤ j ∧ j < i + d ∧ f.testBit j = true ∧ (s.getD j 0).testBit w = true
  | 0, i, r => by simp only [pass]; constructor
                  · intro h; exact .inl h
                  · rintro (h | ⟨j, h1, h2, _⟩)
                    · exact h
                    · omega
  | d + 1, i, r => by
    simp only [pass]
    rw [pass_bit s f w d (i + 1)]
    have hc : (cond (f.testBit i) (r ||| s.getD i 0) r).testBit w = true ↔ r.testBit w = true ∨ (f.testBit i = true ∧ (s.getD i 0).testBit w = true) := by
      cases f.testBit i with
      | true => rw [cond_true, Nat.testBit_or, Bool.or_eq_true]; simp
      | false => simp
    rw [hc]
    constructor
    · rintro ((h | h) | ⟨j, h1, h2, h3⟩)
      · exact .inl h
      · exact .inr ⟨i, Nat.le_refl _, by omega, h⟩
      · exact .inr ⟨j, by omega, by omega, h3⟩
    · rintro (h | ⟨j, h1, h2, h3⟩)
      · exact .inl (.inl h)
      · by_cases e : j = i
        · subst e; exact .inl (.inr h3)
        · exact .inr ⟨j, by omega, by omega, h3⟩
theorem pop_sub : ∀ a, a < 32 → ∀ b, b < 32 → a &&& b = a → a ≠ b → pop a < pop b := by decide +kernel
theorem pop_five : ∀ a, a < 32 → pop a ≤ 5 := by decide +kernel
theorem sub_and {a b : Nat} (h : ∀ w, a.testBit w = true → b.testBit w = true) : a &&& b = a := by
  apply Nat.eq_of_testBit_eq
  intro w
  rw [Nat.testBit_and]
  cases ha : a.testBit w with
  | false => rfl
  | true => rw [h w ha]; rfl
theorem reachN_ex {n : Nat} {s : List Nat} (hs : Sets n s) : ∀ (q f : Nat), f < 32 → 6 ≤ pop f + q → ∃ r, reachN s q f = some r
  | 0, f, hf, h => by have := pop_five f hf; omega
  | q + 1, f, hf, h => by
    simp only [reachN]
    by_cases e : pass s f s.length 0 f = f
    · exact ⟨f, by rw [if_pos e]⟩
    · have hlt := pass_lt hs f s.length 0 f hf
      have hp := pop_sub f hf _ hlt (sub_and fun w hw => (pass_bit s f w _ _ _).2 (.inl hw)) (fun h => e h.symm)
      obtain ⟨r, hr⟩ := reachN_ex hs q _ hlt (by omega)
      exact ⟨r, by rw [if_neg e]; exact hr⟩
/-- What edges lead to from a set is in the set. -/
def Closed (s : List Nat) (r : Nat) : Prop := ∀ i w, r.testBit i = true → (s.getD i 0).testBit w = true → r.testBit w = true
theorem reachN_ok {s : List Nat} : ∀ (q f r : Nat), reachN s q f = some r → Closed s r ∧ (∀ w, f.testBit w = true → r.testBit w = true) ∧ ∀ C, Closed s C → (∀ w, f.testBit w = true → C.testBit w = true) → ∀ w, r.testBit w = true → C.testBit w = true
  | 0, f, r, h => by simp [reachN] at h
  | q + 1, f, r, h => by
    simp only [reachN] at h
    split at h
    · rename_i e
      have : f = r := Option.some.inj h
      subst this
      refine ⟨fun i w hi hw => ?_, fun w hw => hw, fun C _ hC => hC⟩
      by_cases hil : i < s.length
      · have := (pass_bit s f w s.length 0 f).2 (.inr ⟨i, Nat.zero_le _, by omega, hi, hw⟩)
        rw [e] at this; exact this
      · rw [List.getD_eq_getElem?_getD, List.getElem?_eq_none (by omega)] at hw
        simp at hw
    · obtain ⟨h1, h2, h3⟩ := reachN_ok q _ r h
      refine ⟨h1, fun w hw => h2 w ((pass_bit s f w _ _ _).2 (.inl hw)), fun C hC hf => h3 C hC fun w hw => ?_⟩
      rcases (pass_bit s f w _ _ _).1 hw with hw | ⟨j, _, _, hj, hjw⟩
      · exact hf w hw
      · exact hC j w (hf j hj) hjw
def reach (s : List Nat) (v : Nat) : Nat := (reachN s 6 (2 ^ v)).getD 0
theorem reach_some {n : Nat} {s : List Nat} (hs : Sets n s) {v : Nat} (hv : v < 5) : reachN s 6 (2 ^ v) = some (reach s v) := by
  obtain ⟨r, hr⟩ := reachN_ex hs 6 (2 ^ v) (two_lt_32 hv) (by omega)
  rw [reach, hr]; rfl
theorem reach_lt {n : Nat} {s : List Nat} (hs : Sets n s) {v : Nat} (hv : v < 5) : reach s v < 32 := reachN_lt hs _ _ _ (two_lt_32 hv) (reach_some hs hv)
theorem reach_closed {n : Nat} {s : List Nat} (hs : Sets n s) {v : Nat} (hv : v < 5) : Closed s (reach s v) := (reachN_ok _ _ _ (reach_some hs hv)).1
theorem reach_self {n : Nat} {s : List Nat} (hs : Sets n s) {v : Nat} (hv : v < 5) : (reach s v).testBit v = true := (reachN_ok _ _ _ (reach_some hs hv)).2.1 v (by rw [Nat.testBit_two_pow]; simp)
theorem reach_least {n : Nat} {s : List Nat} (hs : Sets n s) {v : Nat} (hv : v < 5) {C : Nat} (hC : Closed s C) (h : C.testBit v = true) : ∀ w, (reach s v).testBit w = true → C.testBit w = true :=
  (reachN_ok _ _ _ (reach_some hs hv)).2.2 C hC fun w hw => by
    rw [Nat.testBit_two_pow, decide_eq_true_eq] at hw
    subst hw; exact h
theorem impl_reach_ev {n : Nat} (h5 : n ≤ 5) {s : List Nat} (hs : Sets n s) {v : Nat} (hv : v < n) : Ev (fun k => impl_reachOf.f k (I s) (v : Int)) ((reach s v : Nat) : Int) :=
  impl_reachOf_ev h5 hs 6 v _ hv (reach_some hs (by omega))
end Go.Proofs.Ytfijegfjpagjoaa.Q
