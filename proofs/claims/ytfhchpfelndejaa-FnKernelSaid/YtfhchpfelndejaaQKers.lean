/- The list of all kernels; l6kAll tells it. The graph is valid. -/
import Derived.Test.YtfhchpfelndejaaQKerB
import Derived.Test.YtfhchpfelndejaaQKers0
import Derived.Test.YtfhchpfelndejaaG12
namespace Go.Proofs.Ytfhchpfelndejaa.Q
open Go.RowKit Go.Proofs.Ytfhchpfelndejaa.G Go.Proofs.YtfhchpfelndejaaW.PrintWords Go.Proofs.YtfhchpfelndejaaW.PrintLast Go.Proofs.YtfhchpfelndejaaW.PrintMore
set_option linter.unusedVariables false
set_option linter.unusedSimpArgs false
/-- All kernels of a direction. -/
def kers (n : Nat) (es : List (Nat × Nat)) (o : Nat) : List Nat := sel (kernelB n es o) 0 (2 ^ n)
theorem spec_l6kAll_ev {n : Nat} {es : List (Nat × Nat)} (hv : Val n es) {o : Nat} (ho : o < 2 ^ es.length) : Ev (fun k => spec_l6kAll.f k n (mkE es) o) (I (kers n es o)) := by
  have h32 := two_n hv.le
  have h0 : (0 : Int) ≤ (n : Int) := Int.natCast_nonneg n
  unfold spec_l6kAll.f
  have h := loop_sel (fun k s i => spec_l6kAll.l0 k (o : Int) s i (n : Int) (mkE es)) (kernelB n es o) (2 ^ n) id (fun k x => spec_l6kIn.f k n (mkE es) o x) (fun x hx => spec_l6kIn_ev hv ho x hx) (fun k s i hi hc => by
    simp only [spec_l6kAll.l0]
    rw [if_pos h0, shl_n hv, if_pos (Int.ofNat_lt.2 hi), wrap_add _ (lt62 (by omega))]
    congr 1; funext t
    have h17 : s.length < 17592186044416 := by omega
    simp only [h17, if_true]) (fun k s => by
    simp only [spec_l6kAll.l0]
    rw [if_pos h0, shl_n hv, if_neg (Int.lt_irrefl _)]; rfl) (2 ^ n) 0 [] (by omega) (by simp)
  exact Ev.eq_ h (by simp [kers])
end Go.Proofs.Ytfhchpfelndejaa.Q
