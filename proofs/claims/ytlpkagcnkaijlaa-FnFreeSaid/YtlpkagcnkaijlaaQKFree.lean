/- Both KernelFree count the sets of nodes that no edge joins. The numbers are of 64 bits. -/
import Derived.Test.YtlpkagcnkaijlaaQCount
import Derived.Test.YtlpkagcnkaijlaaQFree
import Derived.Test.YtlpkagcnkaijlaaG10
import Derived.Test.YtlpkagcnkaijlaaG12
namespace Go.Proofs.Ytlpkagcnkaijlaa.Q
open Go.RowKit Go.Proofs.Ytlpkagcnkaijlaa.G Go.Proofs.YtlpkagcnkaijlaaW.PrintWords Go.Proofs.YtlpkagcnkaijlaaW.PrintLast Go.Proofs.YtlpkagcnkaijlaaW.PrintMore
set_option linter.unusedVariables false
set_option linter.unusedSimpArgs false
def freeN (n : Nat) (es : List (Nat × Nat)) : Nat := cnt (freeB es) 0 (2 ^ n)
section
variable {n : Nat} {es : List (Nat × Nat)} (hv : Val n es)
include hv
theorem impl_KernelFree_ev : Ev (fun k => impl_KernelFree.f k n (mkE es)) (((freeN n es : Nat) : Int), true) := by
  have h0 : (0 : Int) ≤ (n : Int) := by omega
  have h32 := two_n hv.le
  unfold impl_KernelFree.f
  refine Ev.bind (impl_G hv) ?_
  simp only [if_true, h0, shl_n hv]
  refine Ev.bind (impl_count_ev _ (freeB es) (2 ^ n) (by omega) fun x hx => impl_isFree_ev hv x (by omega)) (Ev.now _)
theorem spec_KernelFree_ev : Ev (fun k => spec_KernelFree.f k n (mkE es)) (((freeN n es : Nat) : Int), true) := by
  have h0 : (0 : Int) ≤ (n : Int) := by omega
  have h32 := two_n hv.le
  unfold spec_KernelFree.f
  refine Ev.bind (spec_G hv) ?_
  simp only [if_true]
  have h := loop_cnt (fun k c i => spec_KernelFree.l0 k c i n (mkE es)) (fun k i => spec_l6kFree.f k n (mkE es) i) (freeB es) (2 ^ n) (fun c => (c, true)) (fun x hx => spec_l6kFree_ev hv x (by omega)) (fun k c i hi hc => by
    simp only [spec_KernelFree.l0]
    rw [if_pos h0, shl_n hv, if_pos (by omega), wrap_add _ (by omega), wrap_add _ (by omega)]) (fun k c => by
    simp only [spec_KernelFree.l0]
    rw [if_pos h0, shl_n hv, if_neg (by omega)]) (2 ^ n) 0 0 (by omega) (by omega)
  exact Ev.eq_ h (by simp [freeN])
end
theorem KernelFree_both {a : Int} (ha : InR a) {l : List E} (hl : WfE l) : ∃ r, Ev (fun k => impl_KernelFree.f k a l) r ∧ Ev (fun k => spec_KernelFree.f k a l) r := by
  cases h : isG a l with
  | false =>
    refine ⟨(0, false), ?_, ?_⟩
    · unfold impl_KernelFree.f
      refine Ev.bind (h ▸ impl_WayGraph_ev a l hl) ?_
      simp only [Bool.false_eq_true, if_false]
      exact Ev.now _
    · unfold spec_KernelFree.f
      refine Ev.bind (h ▸ spec_WayGraph_ev a ha l hl) ?_
      simp only [Bool.false_eq_true, if_false]
      exact Ev.now _
  | true =>
    obtain ⟨n, es, rfl, rfl, hv⟩ := isG_mk h
    exact ⟨_, impl_KernelFree_ev hv, spec_KernelFree_ev hv⟩
end Go.Proofs.Ytlpkagcnkaijlaa.Q
