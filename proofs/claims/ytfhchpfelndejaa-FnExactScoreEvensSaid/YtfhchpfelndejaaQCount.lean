/- The program's count tells how many of the numbers below one a predicate holds of. The number is at most two to the power of 31. -/
import Derived.Test.YtfhchpfelndejaaQSem
import Derived.Test.YtfhchpfelndejaaG21
namespace Go.Proofs.Ytfhchpfelndejaa.Q
open Go.RowKit Go.Proofs.Ytfhchpfelndejaa.G Go.Proofs.YtfhchpfelndejaaW.PrintWords Go.Proofs.YtfhchpfelndejaaW.PrintLast Go.Proofs.YtfhchpfelndejaaW.PrintMore
theorem impl_count_ev (p : Nat → Int → Option Bool) (P : Nat → Bool) (N : Nat) (hN : N ≤ 2147483648) (hp : ∀ x : Nat, x < N → Ev (fun k => p k (x : Int)) (P x)) : Ev (fun k => impl_count.f k p (N : Int)) ((cnt P 0 N : Nat) : Int) := by
  have h := loop_cnt (fun k c i => impl_count.l0 k p c i (N : Int)) (fun k i => p k (i : Int)) P N (fun c => c) hp (fun k c i hi hc => by
    simp only [impl_count.l0]
    rw [if_pos (by omega)]
    rfl) (fun k c => by
    simp only [impl_count.l0]
    rw [if_neg (by omega)]) N 0 0 (by omega) (by omega)
  refine Ev.congr (fun k => ?_) (Ev.eq_ h (by simp))
  unfold impl_count.f
  rw [if_pos (by omega)]
  rfl
end Go.Proofs.Ytfhchpfelndejaa.Q
