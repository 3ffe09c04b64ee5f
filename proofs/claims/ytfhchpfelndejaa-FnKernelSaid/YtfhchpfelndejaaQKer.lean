/- Kernels, as the program and the reference test them. The graph is valid, the sets are below two to the power of the nodes. -/
import Derived.Test.YtfhchpfelndejaaQFree
import Derived.Test.YtfhchpfelndejaaG12
namespace Go.Proofs.Ytfhchpfelndejaa.Q
open Go.RowKit Go.Proofs.Ytfhchpfelndejaa.G Go.Proofs.YtfhchpfelndejaaW.PrintWords Go.Proofs.YtfhchpfelndejaaW.PrintLast Go.Proofs.YtfhchpfelndejaaW.PrintMore
set_option linter.unusedVariables false
set_option linter.unusedSimpArgs false

/-! ### kernels -/
/-- From each node that is not in the set an edge leads to one of it. -/
def kerB (s : List Nat) (set : Nat) : Bool := (List.range s.length).all fun v => set.testBit v || (s.getD v 0 &&& set != 0)
theorem impl_isKernel_loop (set : Nat) (hs : set < 2 ^ 62) (s : List Nat) {n : Nat} (hn : n ≤ 5) (hS : Sets n s) : ∀ d i : Nat, i + d = s.length → Ev (fun k => impl_isKernel.l0 k set (I s) ((I s).length : Int) (i : Int)) ((List.range' i d).all fun v => set.testBit v || (s.getD v 0 &&& set != 0))
  | 0, i, h => by
    refine Ev.step (f := fun _ => some true) (fun k => ?_) (Ev.eq_ (Ev.now _) rfl)
    simp only [impl_isKernel.l0]
    rw [if_neg (by rw [I_length]; omega)]
  | d + 1, i, h => by
    have hl := hS.1
    have hx := hS.getD i
    have e1 : wrap64 ((i : Int) + 1) = ((i + 1 : Nat) : Int) := by unfold wrap64; omega
    have ih := impl_isKernel_loop set hs s hn hS d (i + 1) (by omega)
    rw [List.range'_succ, List.all_cons]
    have hstep : ∀ k, impl_isKernel.l0 (k + 1) set (I s) ((I s).length : Int) (i : Int) = if (set.testBit i || (s.getD i 0 &&& set != 0)) = true then impl_isKernel.l0 k set (I s) ((I s).length : Int) ((i + 1 : Nat) : Int) else some false := by
      intro k
      simp only [impl_isKernel.l0]
      rw [if_pos (by rw [I_length]; omega), if_pos (by omega), if_pos (by rw [I_length]; omega), bit_nat _ _ hs (by omega), rd_nat, and_nat _ _ (by omega) hs, e1]
      cases hb : set.testBit i with
      | true => simp
      | false =>
        rw [if_pos (by rfl), Bool.false_or]
        by_cases hz : s.getD i 0 &&& set = 0
        · rw [hz]; simp
        · rw [if_neg (by omega), if_pos (by simpa using hz)]
    cases hb : (set.testBit i || (s.getD i 0 &&& set != 0)) with
    | true => exact Ev.step (fun k => by rw [hstep k, hb, if_pos rfl]) (Ev.eq_ ih (by simp))
    | false => exact Ev.step (f := fun _ => some false) (fun k => by rw [hstep k, hb]; simp) (Ev.eq_ (Ev.now _) (by simp))
section
variable {n : Nat} {es : List (Nat × Nat)} (hv : Val n es)
include hv
theorem impl_isKernel_ev {o : Nat} (ho : o < 2 ^ es.length) (set : Nat) (hs : set < 2 ^ 62) : Ev (fun k => impl_isKernel.f k n (mkE es) o set) (freeB es set && kerB (nxt n (arcs es o)) set) := by
  unfold impl_isKernel.f
  refine Ev.bind (impl_isFree_ev hv set hs) ?_
  cases hf : freeB es set with
  | false => simp only [Bool.false_eq_true, if_false, Bool.false_and]; exact Ev.now _
  | true =>
    simp only [if_true, Bool.true_and]
    refine Ev.bind (impl_nextOf_ev hv ho) (Ev.eq_ (impl_isKernel_loop set hs _ hv.le (nxt_sets hv o) (nxt n (arcs es o)).length 0 (by omega)) ?_)
    rw [kerB, List.range_eq_range']
/-- The reference adds the nodes from which an edge leads into the set. -/
def metS (set : Nat) (s : Nat) (e : Nat × Nat) : Nat := if set.testBit e.2 then s ||| 2 ^ e.1 else s
theorem spec_l6kIn_loop {o : Nat} (ho : o < 2 ^ es.length) (set : Nat) (hs : set < 32) : ∀ (d i m : Nat), i + d = es.length → m < 32 → Ev (fun k => spec_l6kIn.l0 k o set (m : Int) (i : Int) n (mkE es)) (freeB es set && decide (((arcs es o).drop i).foldl (metS set) m = 2 ^ n - 1))
  | 0, i, m, h, hm => by
    have h2 := two_n hv.le
    have hp := Nat.two_pow_pos n
    have hd : ((arcs es o).drop i).foldl (metS set) m = m := by rw [List.drop_of_length_le (by rw [arcs_length]; omega)]; rfl
    refine Ev.step (f := fun k => (spec_l6kFree.f k n (mkE es) set).bind fun t => if t = true then some ((m : Int) == wrap64 (((2 ^ n : Nat) : Int) - 1)) else some false) (fun k => ?_) (Ev.bind (spec_l6kFree_ev hv set (by omega)) ?_)
    · simp only [spec_l6kIn.l0]
      rw [if_neg (by rw [mkE_length]; omega), shl_n hv]
      simp only [show (0 : Int) ≤ (n : Int) from by omega, if_true]
    · rw [hd]
      cases hf : freeB es set with
      | false => simp only [Bool.false_eq_true, if_false, Bool.false_and]; exact Ev.now _
      | true =>
        simp only [if_true, Bool.true_and]
        refine Ev.eq_ (Ev.now _) ?_
        generalize 2 ^ n = N at *
        rw [Bool.eq_iff_iff, beq_iff_eq, decide_eq_true_eq]
        have : wrap64 ((N : Int) - 1) = (N : Int) - 1 := by unfold wrap64; omega
        rw [this]
        omega
  | d + 1, i, m, h, hm => by
    have hi : i < es.length := by omega
    have hl := hv.len
    have h5 := hv.le
    have e1 : wrap64 ((i : Int) + 1) = ((i + 1 : Nat) : Int) := by unfold wrap64; omega
    have hb := arcs_bd hv (o := o) i hi
    rw [List.drop_eq_getElem_cons (by rw [arcs_length]; exact hi), List.foldl_cons]
    generalize hx : (arcs es o)[i]'(by rw [arcs_length]; exact hi) = x at hb
    have h2 := two_lt_32 (v := x.1) (by omega)
    have ih := spec_l6kIn_loop ho set hs d (i + 1) (metS set m x) (by omega) (by unfold metS; split <;> first | exact hm | exact or_lt_32 hm h2)
    refine Ev.step (fun k => ?_) ih
    simp only [spec_l6kIn.l0]
    rw [if_pos (by rw [mkE_length]; omega), spec_ends_eq hv ho i hi, hx]
    simp only [Option.bind_some]
    rw [if_pos (by omega), bit_nat _ _ (by omega) (by omega), e1]
    unfold metS
    cases set.testBit x.2 with
    | false => rw [if_neg (by simp)]; rfl
    | true =>
      rw [if_pos (by rfl), if_pos (by omega), shl_one _ (by omega), or_nat _ _ (by omega) (by omega)]
      rfl
end
end Go.Proofs.Ytfhchpfelndejaa.Q
