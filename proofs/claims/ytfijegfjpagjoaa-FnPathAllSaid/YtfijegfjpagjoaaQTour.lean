/- Tournaments: a whole graph has all pairs; what is checked for all directions of all pairs holds for each tournament. The graph is valid. -/
import Derived.Test.YtfijegfjpagjoaaQPwI
import Derived.Test.YtfijegfjpagjoaaQNext
namespace Go.Proofs.Ytfijegfjpagjoaa.Q
theorem whole_pairs {n : Nat} {es : List (Nat × Nat)} (hv : Val n es) (h : wholeB n es = true) : es = pairs n := by
  have h1 := pairs_len n hv.le
  rw [wholeB, decide_eq_true_eq] at h
  refine hv.sub.eq_of_length ?_
  omega
/-- A test passes below a bound. -/
def below (P : Nat → Bool) : Nat → Bool
  | 0 => true
  | m + 1 => and (P m) (below P m)
theorem below_of {P : Nat → Bool} : ∀ m, below P m = true → ∀ o, o < m → P o = true
  | 0, _, o, ho => absurd ho (by omega)
  | m + 1, h, o, ho => by
    simp only [below, Bool.and_eq_true] at h
    by_cases e : o = m
    · subst e; exact h.1
    · exact below_of m h.2 o (by omega)
theorem tour_of {P : Nat → Nat → Bool} (h1 : below (P 1) 1 = true) (h2 : below (P 2) 2 = true) (h3 : below (P 3) 8 = true) (h4 : below (P 4) 64 = true) (h5 : below (P 5) 1024 = true)
    {n : Nat} {es : List (Nat × Nat)} (hv : Val n es) (hw : wholeB n es = true) {o : Nat} (ho : o < 2 ^ es.length) : P n o = true := by
  have he := whole_pairs hv hw
  subst he
  rcases five hv.pos hv.le with rfl | rfl | rfl | rfl | rfl
  · exact below_of _ h1 o ho
  · exact below_of _ h2 o ho
  · exact below_of _ h3 o ho
  · exact below_of _ h4 o ho
  · exact below_of _ h5 o ho
end Go.Proofs.Ytfijegfjpagjoaa.Q
