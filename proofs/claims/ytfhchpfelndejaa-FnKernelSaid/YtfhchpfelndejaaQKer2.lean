/- Both KernelIn tell the same for all arguments. The numbers are of 64 bits. -/
import Derived.Test.YtfhchpfelndejaaQKerB
import Derived.Test.YtfhchpfelndejaaG30
namespace Go.Proofs.Ytfhchpfelndejaa.Q
open Go.RowKit Go.Proofs.Ytfhchpfelndejaa.G Go.Proofs.YtfhchpfelndejaaW.PrintWords Go.Proofs.YtfhchpfelndejaaW.PrintLast Go.Proofs.YtfhchpfelndejaaW.PrintMore
set_option linter.unusedVariables false
set_option linter.unusedSimpArgs false
section
variable {n : Nat} {es : List (Nat × Nat)} (hv : Val n es)
include hv
theorem KernelIn_val {o : Nat} (ho : o < 2 ^ es.length) (x : Int) : ∃ r, Ev (fun k => impl_KernelIn.f k n (mkE es) o x) r ∧ Ev (fun k => spec_KernelIn.f k n (mkE es) o x) r := by
  have hW1 := impl_WayIn_yes hv ho
  have hW2 := spec_WayIn_yes hv ho
  have h32 := two_n hv.le
  have hp := Nat.two_pow_pos n
  have h0 : (0 : Int) ≤ (n : Int) := by omega
  have e1 : wrap64 (((2 ^ n : Nat) : Int) - 1) = ((2 ^ n : Nat) : Int) - 1 := by generalize 2 ^ n = N at *; unfold wrap64; omega
  by_cases h : 0 ≤ x ∧ x < ((2 ^ n : Nat) : Int)
  · obtain ⟨s, rfl⟩ := Int.eq_ofNat_of_zero_le h.1
    have hs : s < 2 ^ n := by omega
    refine ⟨kernelB n es o s, ?_, ?_⟩
    · unfold impl_KernelIn.f
      refine Ev.bind hW1 ?_
      simp only [if_true, ge_iff_le, h.1, h0, shl_n hv, h.2]
      exact Ev.bind (impl_isKernel_ev' hv ho s hs) (Ev.now _)
    · unfold spec_KernelIn.f
      refine Ev.bind hW2 ?_
      simp only [if_true, h0, shl_n hv, e1, spec_l6In_eq, Option.bind_some, h.1, decide_true, Bool.true_and]
      have : decide ((s : Int) ≤ ((2 ^ n : Nat) : Int) - 1) = true := by rw [decide_eq_true_eq]; omega
      simp only [this, if_true]
      exact Ev.bind (spec_l6kIn_ev hv ho s hs) (Ev.now _)
  · refine ⟨false, ?_, ?_⟩
    · unfold impl_KernelIn.f
      refine Ev.bind hW1 ?_
      simp only [if_true, ge_iff_le, h0, shl_n hv]
      by_cases h1 : 0 ≤ x
      · have h2 : ¬ x < ((2 ^ n : Nat) : Int) := fun h2 => h ⟨h1, h2⟩
        simp only [h1, h2, if_true, if_false]
        exact Ev.now _
      · simp only [h1, if_false]
        exact Ev.now _
    · unfold spec_KernelIn.f
      refine Ev.bind hW2 ?_
      simp only [if_true, h0, shl_n hv, e1, spec_l6In_eq, Option.bind_some]
      have : (decide (0 ≤ x) && decide (x ≤ ((2 ^ n : Nat) : Int) - 1)) = false := by
        rw [Bool.and_eq_false_iff, decide_eq_false_iff_not, decide_eq_false_iff_not]; omega
      simp only [this, Bool.false_eq_true, if_false]
      exact Ev.now _
end
theorem KernelIn_no {a : Int} {l : List E} {o : Int} (h1 : Ev (fun k => impl_WayIn.f k a l o) false) (h2 : Ev (fun k => spec_WayIn.f k a l o) false) (x : Int) : ∃ r, Ev (fun k => impl_KernelIn.f k a l o x) r ∧ Ev (fun k => spec_KernelIn.f k a l o x) r := by
  refine ⟨false, ?_, ?_⟩
  · unfold impl_KernelIn.f
    refine Ev.bind h1 ?_
    simp only [Bool.false_eq_true, if_false]
    exact Ev.now _
  · unfold spec_KernelIn.f
    refine Ev.bind h2 ?_
    simp only [Bool.false_eq_true, if_false]
    exact Ev.now _
theorem KernelIn_both {a : Int} (ha : InR a) {l : List E} (hl : WfE l) (o x : Int) : ∃ r, Ev (fun k => impl_KernelIn.f k a l o x) r ∧ Ev (fun k => spec_KernelIn.f k a l o x) r := by
  rcases way_split ha hl o with ⟨n, es, o', rfl, rfl, rfl, hv, ho⟩ | ⟨h1, h2⟩
  · exact KernelIn_val hv ho x
  · exact KernelIn_no h1 h2 x
end Go.Proofs.Ytfhchpfelndejaa.Q
