/- Both KernelAll list the kernels of a direction. The numbers are of 64 bits. -/
import Derived.Test.YtfhchpfelndejaaQKers
import Derived.Test.YtfhchpfelndejaaG12
namespace Go.Proofs.Ytfhchpfelndejaa.Q
open Go.RowKit Go.Proofs.Ytfhchpfelndejaa.G Go.Proofs.YtfhchpfelndejaaW.PrintWords Go.Proofs.YtfhchpfelndejaaW.PrintLast Go.Proofs.YtfhchpfelndejaaW.PrintMore
set_option linter.unusedVariables false
set_option linter.unusedSimpArgs false
section
variable {n : Nat} {es : List (Nat × Nat)} (hv : Val n es)
include hv
theorem impl_KernelAll_ev {o : Nat} (ho : o < 2 ^ es.length) : Ev (fun k => impl_KernelAll.f k n (mkE es) o) (I (kers n es o), true) := by
  have h32 := two_n hv.le
  have h0 : (0 : Int) ≤ (n : Int) := Int.natCast_nonneg n
  unfold impl_KernelAll.f
  refine Ev.bind (impl_WayIn_yes hv ho) ?_
  simp only [if_true, h0, shl_n hv]
  have h := loop_sel (fun k s i => impl_KernelAll.l0 k (o : Int) s ((2 ^ n : Nat) : Int) i (n : Int) (mkE es)) (kernelB n es o) (2 ^ n) (fun s => (s, true)) (fun k x => impl_isKernel.f k n (mkE es) o x) (fun x hx => impl_isKernel_ev' hv ho x hx) (fun k s i hi hc => by
    simp only [impl_KernelAll.l0]
    rw [if_pos (Int.ofNat_lt.2 hi), wrap_add _ (lt62 (by omega))]
    congr 1; funext t
    have h17 : s.length < 17592186044416 := by omega
    simp only [h17, if_true]) (fun k s => by
    simp only [impl_KernelAll.l0]
    rw [if_neg (Int.lt_irrefl _)]) (2 ^ n) 0 [] (by omega) (by simp)
  exact Ev.eq_ h (by simp [kers])
theorem spec_KernelAll_ev {o : Nat} (ho : o < 2 ^ es.length) : Ev (fun k => spec_KernelAll.f k n (mkE es) o) (I (kers n es o), true) := by
  unfold spec_KernelAll.f
  refine Ev.bind (spec_WayIn_yes hv ho) ?_
  simp only [if_true]
  exact Ev.bind (spec_l6kAll_ev hv ho) (Ev.now _)
end
theorem KernelAll_both {a : Int} (ha : InR a) {l : List E} (hl : WfE l) (o : Int) : ∃ (r : List Nat) (b : Bool), r.length ≤ 32 ∧ (∀ x ∈ r, x < 32) ∧ Ev (fun k => impl_KernelAll.f k a l o) (I r, b) ∧ Ev (fun k => spec_KernelAll.f k a l o) (I r, b) := by
  rcases way_split ha hl o with ⟨n, es, o', rfl, rfl, rfl, hv, ho⟩ | ⟨h1, h2⟩
  · have h32 := two_n hv.le
    refine ⟨_, true, ?_, ?_, impl_KernelAll_ev hv ho, spec_KernelAll_ev hv ho⟩
    · rw [kers, sel_len]; exact Nat.le_trans (cnt_le _ _ _) h32
    · intro x hx; have := sel_lt _ _ _ x hx; omega
  · refine ⟨[], false, by simp, by simp, ?_, ?_⟩
    · unfold impl_KernelAll.f
      refine Ev.bind h1 ?_
      simp only [Bool.false_eq_true, if_false]
      exact Ev.now _
    · unfold spec_KernelAll.f
      refine Ev.bind h2 ?_
      simp only [Bool.false_eq_true, if_false]
      exact Ev.now _
end Go.Proofs.Ytfhchpfelndejaa.Q
