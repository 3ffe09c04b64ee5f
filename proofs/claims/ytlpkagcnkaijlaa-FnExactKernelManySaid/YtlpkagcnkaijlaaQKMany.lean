/- Both KernelMany count the directions with a kernel. The numbers are of 64 bits. -/
import Derived.Test.YtlpkagcnkaijlaaQKers
import Derived.Test.YtlpkagcnkaijlaaQCount
import Derived.Test.YtlpkagcnkaijlaaG33
import Derived.Test.YtlpkagcnkaijlaaG32
namespace Go.Proofs.Ytlpkagcnkaijlaa.Q
open Go.RowKit Go.Proofs.Ytlpkagcnkaijlaa.G Go.Proofs.YtlpkagcnkaijlaaW.PrintWords Go.Proofs.YtlpkagcnkaijlaaW.PrintLast Go.Proofs.YtlpkagcnkaijlaaW.PrintMore
set_option linter.unusedVariables false
set_option linter.unusedSimpArgs false
def hasKer (n : Nat) (es : List (Nat × Nat)) (o : Nat) : Bool := decide (0 < (kers n es o).length)
section
variable {n : Nat} {es : List (Nat × Nat)} (hv : Val n es)
include hv
theorem impl_kernelAny_loop {o : Nat} (ho : o < 2 ^ es.length) : ∀ d i : Nat, i + d = 2 ^ n → Ev (fun k => impl_kernelAny.l0 k (i : Int) ((2 ^ n : Nat) : Int) (o : Int) (n : Int) (mkE es)) (decide (0 < cnt (kernelB n es o) i d))
  | 0, i, h => by
    refine Ev.step (f := fun _ => some false) (fun k => ?_) (Ev.eq_ (Ev.now _) (by simp [cnt]))
    simp only [impl_kernelAny.l0]
    rw [if_neg (by omega)]
  | d + 1, i, h => by
    have hi : i < 2 ^ n := by omega
    refine Ev.step (fun k => ?_) (Ev.bind (f := fun k t => if t = true then some true else impl_kernelAny.l0 k ((i + 1 : Nat) : Int) ((2 ^ n : Nat) : Int) (o : Int) (n : Int) (mkE es)) (impl_isKernel_ev' hv ho i hi) ?_)
    · simp only [impl_kernelAny.l0]
      rw [if_pos (Int.ofNat_lt.2 hi)]
      rfl
    · cases hk : kernelB n es o i with
      | true => simp only [if_true]; exact Ev.eq_ (Ev.now _) (by simp [cnt, hk]; omega)
      | false =>
        simp only [Bool.false_eq_true, if_false]
        exact Ev.eq_ (impl_kernelAny_loop ho d (i + 1) (by omega)) (by simp [cnt, hk])
theorem impl_kernelAny_ev {o : Nat} (ho : o < 2 ^ es.length) : Ev (fun k => impl_kernelAny.f k n (mkE es) o) (hasKer n es o) := by
  have h32 := two_n hv.le
  refine Ev.congr (fun k => ?_) (Ev.eq_ (impl_kernelAny_loop hv ho (2 ^ n) 0 (by omega)) (by rw [hasKer, kers, sel_len]))
  unfold impl_kernelAny.f
  rw [if_pos (Int.natCast_nonneg n), shl_n hv, if_pos (by omega)]
  rfl
theorem impl_KernelMany_ev : Ev (fun k => impl_KernelMany.f k n (mkE es)) (((cnt (hasKer n es) 0 (2 ^ es.length) : Nat) : Int), true) := by
  have h2 := hv.two
  unfold impl_KernelMany.f
  refine Ev.bind (impl_G hv) ?_
  simp only [if_true, shl_len hv]
  exact Ev.bind (impl_count_ev _ (hasKer n es) (2 ^ es.length) (by omega) fun x hx => impl_kernelAny_ev hv hx) (Ev.now _)
theorem spec_KernelMany_ev : Ev (fun k => spec_KernelMany.f k n (mkE es)) (((cnt (hasKer n es) 0 (2 ^ es.length) : Nat) : Int), true) := by
  have h2 := hv.two
  have hp := Nat.two_pow_pos es.length
  have hall : spec_l1All.f n (mkE es) = some ((2 ^ es.length - 1 : Nat) : Int) := by
    unfold spec_l1All.f
    rw [shl_len hv]
    generalize 2 ^ es.length = m at *
    have : wrap64 ((m : Int) - 1) = ((m - 1 : Nat) : Int) := by unfold wrap64; omega
    rw [this]
  unfold spec_KernelMany.f
  refine Ev.bind (spec_G hv) ?_
  simp only [if_true]
  have h := loop_cnt (fun k c i => spec_KernelMany.l0 k c i n (mkE es)) (fun k i => (spec_l6kAll.f k n (mkE es) i).bind fun t => some (decide ((t.length : Int) > 0))) (hasKer n es) (2 ^ es.length) (fun c => (c, true)) (fun x hx => Ev.bind (spec_l6kAll_ev hv hx) (Ev.eq_ (Ev.now _) (by rw [I_length, hasKer]; congr 1; simp; try omega))) (fun k c i hi hc => by
    simp only [spec_KernelMany.l0, hall, Option.bind_some]
    rw [if_pos (by omega), wrap_add _ (by omega), wrap_add _ (by omega)]
    rw [Option.bind_assoc]
    congr 1; funext t
    simp only [Option.bind_some, decide_eq_true_eq]) (fun k c => by
    simp only [spec_KernelMany.l0, hall, Option.bind_some]
    rw [if_neg (by omega)]) (2 ^ es.length) 0 0 (by omega) (by omega)
  exact Ev.eq_ h (by simp)
end
theorem KernelMany_both {a : Int} (ha : InR a) {l : List E} (hl : WfE l) : ∃ r, Ev (fun k => impl_KernelMany.f k a l) r ∧ Ev (fun k => spec_KernelMany.f k a l) r := by
  cases h : isG a l with
  | false =>
    refine ⟨(0, false), ?_, ?_⟩
    · unfold impl_KernelMany.f
      refine Ev.bind (h ▸ impl_WayGraph_ev a l hl) ?_
      simp only [Bool.false_eq_true, if_false]
      exact Ev.now _
    · unfold spec_KernelMany.f
      refine Ev.bind (h ▸ spec_WayGraph_ev a ha l hl) ?_
      simp only [Bool.false_eq_true, if_false]
      exact Ev.now _
  | true =>
    obtain ⟨n, es, rfl, rfl, hv⟩ := isG_mk h
    exact ⟨_, impl_KernelMany_ev hv, spec_KernelMany_ev hv⟩
end Go.Proofs.Ytlpkagcnkaijlaa.Q
