/- What is checked for all parts of a list of pairs holds for every valid graph; what is checked for all directed parts holds for every direction. No condition. -/
import Derived.Test.YtfhchpfelndejaaQNext
namespace Go.Proofs.Ytfhchpfelndejaa.Q
/-- A test passes at all parts of a list. -/
def subsAll : List (Nat × Nat) → (List (Nat × Nat) → Bool) → Bool
  | [], P => P []
  | x :: m, P => and (subsAll m P) (subsAll m fun l => P (x :: l))
theorem subsAll_of : ∀ (m : List (Nat × Nat)) (P : List (Nat × Nat) → Bool), subsAll m P = true → ∀ l, l.Sublist m → P l = true
  | [], P, h, l, hl => by
    have : l = [] := List.sublist_nil.1 hl
    subst this; exact h
  | x :: m, P, h, l, hl => by
    simp only [subsAll, Bool.and_eq_true] at h
    cases hl with
    | cons _ hl => exact subsAll_of m P h.1 l hl
    | cons_cons _ hl => exact subsAll_of m _ h.2 _ hl
/-- A test passes at all directed parts of a list. -/
def dirsAll : List (Nat × Nat) → (List (Nat × Nat) → Bool) → Bool
  | [], P => P []
  | x :: m, P => and (dirsAll m P) (and (dirsAll m fun l => P (x :: l)) (dirsAll m fun l => P ((x.2, x.1) :: l)))
theorem dirsAll_of : ∀ (m : List (Nat × Nat)) (P : List (Nat × Nat) → Bool), dirsAll m P = true → ∀ (es : List (Nat × Nat)) (o : Nat), es.Sublist m → P (arcs es o) = true
  | [], P, h, l, o, hl => by
    have : l = [] := List.sublist_nil.1 hl
    subst this; exact h
  | x :: m, P, h, l, o, hl => by
    simp only [dirsAll, Bool.and_eq_true] at h
    cases hl with
    | cons _ hl => exact dirsAll_of m P h.1 l o hl
    | cons_cons _ hl =>
      rename_i l
      simp only [arcs]
      by_cases ho : o % 2 = 1
      · rw [if_pos ho]; exact dirsAll_of m _ h.2.2 l (o / 2) hl
      · rw [if_neg ho]; exact dirsAll_of m _ h.2.1 l (o / 2) hl
/-- For every valid graph. -/
theorem graphs_of {P : Nat → List (Nat × Nat) → Bool} (h1 : subsAll (pairs 1) (P 1) = true) (h2 : subsAll (pairs 2) (P 2) = true) (h3 : subsAll (pairs 3) (P 3) = true) (h4 : subsAll (pairs 4) (P 4) = true) (h5 : subsAll (pairs 5) (P 5) = true)
    {n : Nat} {es : List (Nat × Nat)} (hv : Val n es) : P n es = true := by
  have hn : n = 1 ∨ n = 2 ∨ n = 3 ∨ n = 4 ∨ n = 5 := by have := hv.pos; have := hv.le; omega
  rcases hn with rfl | rfl | rfl | rfl | rfl
  · exact subsAll_of _ _ h1 es hv.sub
  · exact subsAll_of _ _ h2 es hv.sub
  · exact subsAll_of _ _ h3 es hv.sub
  · exact subsAll_of _ _ h4 es hv.sub
  · exact subsAll_of _ _ h5 es hv.sub
/-- For every direction of a valid graph. -/
theorem dirs_of {P : Nat → List (Nat × Nat) → Bool} (h1 : dirsAll (pairs 1) (P 1) = true) (h2 : dirsAll (pairs 2) (P 2) = true) (h3 : dirsAll (pairs 3) (P 3) = true) (h4 : dirsAll (pairs 4) (P 4) = true) (h5 : dirsAll (pairs 5) (P 5) = true)
    {n : Nat} {es : List (Nat × Nat)} (hv : Val n es) (o : Nat) : P n (arcs es o) = true := by
  have hn : n = 1 ∨ n = 2 ∨ n = 3 ∨ n = 4 ∨ n = 5 := by have := hv.pos; have := hv.le; omega
  rcases hn with rfl | rfl | rfl | rfl | rfl
  · exact dirsAll_of _ _ h1 es o hv.sub
  · exact dirsAll_of _ _ h2 es o hv.sub
  · exact dirsAll_of _ _ h3 es o hv.sub
  · exact dirsAll_of _ _ h4 es o hv.sub
  · exact dirsAll_of _ _ h5 es o hv.sub
end Go.Proofs.Ytfhchpfelndejaa.Q
