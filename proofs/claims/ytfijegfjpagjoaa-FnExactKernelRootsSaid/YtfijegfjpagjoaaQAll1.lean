/- The greatest direction, and the lesser one of two numbers. The graph is valid. -/
import Derived.Test.YtfijegfjpagjoaaQNext
import Derived.Test.YtfijegfjpagjoaaG15
namespace Go.Proofs.Ytfijegfjpagjoaa.Q
open Go.RowKit Go.Proofs.Ytfijegfjpagjoaa.G Go.Proofs.YtfijegfjpagjoaaW.PrintWords Go.Proofs.YtfijegfjpagjoaaW.PrintLast Go.Proofs.YtfijegfjpagjoaaW.PrintMore
set_option linter.unusedVariables false
set_option linter.unusedSimpArgs false
theorem mn_nat (a b : Nat) : mn (a : Int) (b : Int) = ((min a b : Nat) : Int) := by
  unfold mn
  split <;> omega
theorem spec_l1All_eq' {n : Nat} {es : List (Nat × Nat)} (hv : Val n es) : spec_l1All.f n (mkE es) = some ((2 ^ es.length - 1 : Nat) : Int) := by
  have h2 := hv.two
  have hp := Nat.two_pow_pos es.length
  unfold spec_l1All.f
  rw [shl_len hv]
  generalize 2 ^ es.length = m at *
  have : wrap64 ((m : Int) - 1) = ((m - 1 : Nat) : Int) := by unfold wrap64; omega
  rw [this]
end Go.Proofs.Ytfijegfjpagjoaa.Q
