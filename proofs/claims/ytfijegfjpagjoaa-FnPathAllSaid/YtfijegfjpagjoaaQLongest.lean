/- The program's longest path is the first longest one of the list of simple paths. The sets are of five nodes at most. -/
import Derived.Test.YtfijegfjpagjoaaQPathsI
import Derived.Test.YtfijegfjpagjoaaG12
namespace Go.Proofs.Ytfijegfjpagjoaa.Q
open Go.RowKit Go.Proofs.Ytfijegfjpagjoaa.G Go.Proofs.YtfijegfjpagjoaaW.PrintWords Go.Proofs.YtfijegfjpagjoaaW.PrintLast Go.Proofs.YtfijegfjpagjoaaW.PrintMore
set_option linter.unusedVariables false
set_option linter.unusedSimpArgs false
set_option linter.unusedSectionVars false
theorem longest_step (a p : List Nat) : impl_longest.step (I a) (I p) = I (pickP a p) := by
  unfold impl_longest.step pickP
  rw [I_length, I_length]
  by_cases h : a.length < p.length
  · rw [if_pos h, if_pos (Int.ofNat_lt.2 h)]
  · rw [if_neg h, if_neg (fun e => h (Int.ofNat_lt.1 e))]
theorem longest_fold : ∀ (L : List (List Nat)) (a : List Nat), L.foldl (fun st p => impl_longest.step st (I p)) (I a) = I (L.foldl pickP a)
  | [], _ => rfl
  | x :: t, a => by rw [List.foldl_cons, List.foldl_cons, longest_step, longest_fold t]
section
variable {n : Nat} {es : List (Nat × Nat)} (hv : Val n es)
include hv
theorem longP_len (o : Nat) : (longP (nxt n (arcs es o)) n).length ≤ n := longP_le hv.le
theorem impl_longest_ev {o : Nat} (ho : o < 2 ^ es.length) : Ev (fun k => impl_longest.f k n (mkE es) o) (I (longP (nxt n (arcs es o)) n)) := by
  unfold impl_longest.f
  refine Ev.bind (impl_paths_ev hv impl_longest.step ho (I [])) ?_
  rw [longest_fold]
  have hl := longP_len hv o
  have h5 := hv.le
  unfold slices_Clone.f
  rw [show (allP (nxt n (arcs es o)) n).foldl pickP [] = longP (nxt n (arcs es o)) n from rfl, if_pos (by rw [I_length]; omega)]
  exact Ev.now _
end
end Go.Proofs.Ytfijegfjpagjoaa.Q
