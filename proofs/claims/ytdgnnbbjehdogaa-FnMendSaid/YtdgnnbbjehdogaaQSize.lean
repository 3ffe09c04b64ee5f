/- The reference counts ones by halving. The number is below 1024. -/
import Derived.Test.YtdgnnbbjehdogaaQOnes
import Derived.Test.YtdgnnbbjehdogaaG7
namespace Go.Proofs.Ytdgnnbbjehdogaa.Q
open Go.RowKit Go.Proofs.Ytdgnnbbjehdogaa.G Go.Proofs.YtdgnnbbjehdogaaW.PrintWords Go.Proofs.YtdgnnbbjehdogaaW.PrintLast Go.Proofs.YtdgnnbbjehdogaaW.PrintMore
theorem spec_l4Size_ev (x : Nat) (hx : x < 1024) : Ev (fun k => spec_l4Size.f k (x : Int)) ((pop x : Nat) : Int) := by
  have h := loop_half (fun k x c => spec_l4Size.l0 k x c) (fun k x c => rfl) 10 x 0 (by omega) (by omega)
  exact Ev.eq_ h (by rw [Nat.zero_add]; rfl)
end Go.Proofs.Ytdgnnbbjehdogaa.Q
