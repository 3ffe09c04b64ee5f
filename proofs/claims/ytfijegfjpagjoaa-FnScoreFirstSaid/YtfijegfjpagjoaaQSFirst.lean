/- Both ScoreFirst tell the first direction of a row. The numbers are of 64 bits. -/
import Derived.Test.YtfijegfjpagjoaaQOutS
import Derived.Test.YtfijegfjpagjoaaQRowEq
import Derived.Test.YtfijegfjpagjoaaG48
import Derived.Test.YtfijegfjpagjoaaG15
namespace Go.Proofs.Ytfijegfjpagjoaa.Q
open Go.RowKit Go.Proofs.Ytfijegfjpagjoaa.G Go.Proofs.YtfijegfjpagjoaaW.PrintWords Go.Proofs.YtfijegfjpagjoaaW.PrintLast Go.Proofs.YtfijegfjpagjoaaW.PrintMore
set_option linter.unusedVariables false
set_option linter.unusedSimpArgs false
/-- The first direction from x on, d of them, with a row. -/
def fstD (n : Nat) (es : List (Nat × Nat)) (row : List Int) : Nat → Nat → Int × Bool
  | _, 0 => (0, false)
  | x, d + 1 => if I (deg n (arcs es x)) = row then ((x : Int), true) else fstD n es row (x + 1) d
section
variable {n : Nat} {es : List (Nat × Nat)} (hv : Val n es)
include hv
theorem spec_l1All_eq3 : spec_l1All.f n (mkE es) = some ((2 ^ es.length - 1 : Nat) : Int) := by
  have h2 := hv.two
  have hp := Nat.two_pow_pos es.length
  unfold spec_l1All.f
  rw [shl_len hv]
  generalize 2 ^ es.length = m at *
  have : wrap64 ((m : Int) - 1) = ((m - 1 : Nat) : Int) := by unfold wrap64; omega
  rw [this]
theorem impl_ScoreFirst_loop (row : List Int) (hr : row.length ≤ 1048576) : ∀ d x : Nat, x + d = 2 ^ es.length → Ev (fun k => impl_ScoreFirst.l0 k row ((2 ^ es.length : Nat) : Int) (x : Int) n (mkE es)) (fstD n es row x d)
  | 0, x, h => by
    refine Ev.step (f := fun _ => some (0, false)) (fun k => ?_) (Ev.now _)
    simp only [impl_ScoreFirst.l0]
    rw [if_neg (by omega)]
  | d + 1, x, h => by
    have h2 := hv.two
    have hx : x < 2 ^ es.length := by omega
    have e1 : wrap64 ((x : Int) + 1) = ((x + 1 : Nat) : Int) := wrap_add _ (by omega)
    have hdl := deg_len n (arcs es x)
    have h5 := hv.le
    refine Ev.step (f := fun k => (impl_outOf.f k n (mkE es) (x : Int)).bind fun t => (slices_Equal_int_int.f k t row).bind fun u => if u = true then some ((x : Int), true) else impl_ScoreFirst.l0 k row ((2 ^ es.length : Nat) : Int) ((x + 1 : Nat) : Int) n (mkE es)) (fun k => ?_) (Ev.bind (impl_outOf_ev hv hx) (Ev.bind (slices_Equal_gen (I (deg n (arcs es x))) row (by rw [I_length]; omega)) ?_))
    · simp only [impl_ScoreFirst.l0]
      rw [if_pos (Int.ofNat_lt.2 hx), e1]
    · simp only [fstD, decide_eq_true_eq]
      split
      · exact Ev.now _
      · exact impl_ScoreFirst_loop row hr d (x + 1) (by omega)
theorem impl_ScoreFirst_ev (row : List Int) (hr : row.length ≤ 1048576) : Ev (fun k => impl_ScoreFirst.f k n (mkE es) row) (fstD n es row 0 (2 ^ es.length)) := by
  unfold impl_ScoreFirst.f
  refine Ev.bind (impl_G hv) ?_
  simp only [if_true, shl_len hv]
  exact impl_ScoreFirst_loop hv row hr (2 ^ es.length) 0 (by omega)
theorem spec_ScoreFirst_loop (row : List Int) (hr : row.length ≤ 1048576) : ∀ d x : Nat, x + d = 2 ^ es.length → Ev (fun k => spec_ScoreFirst.l0 k row (x : Int) n (mkE es)) (fstD n es row x d)
  | 0, x, h => by
    have hp := Nat.two_pow_pos es.length
    refine Ev.step (f := fun _ => some (0, false)) (fun k => ?_) (Ev.now _)
    simp only [spec_ScoreFirst.l0, spec_l1All_eq3 hv, Option.bind_some]
    rw [if_neg (by omega)]
  | d + 1, x, h => by
    have h2 := hv.two
    have hx : x < 2 ^ es.length := by omega
    have e1 : wrap64 ((x : Int) + 1) = ((x + 1 : Nat) : Int) := wrap_add _ (by omega)
    have hdl := deg_len n (arcs es x)
    have h5 := hv.le
    refine Ev.step (f := fun k => (spec_l1Out.f k n (mkE es) (x : Int)).bind fun t => (spec_l4Equal.f k t row).bind fun u => if u = true then some ((x : Int), true) else spec_ScoreFirst.l0 k row ((x + 1 : Nat) : Int) n (mkE es)) (fun k => ?_) (Ev.bind (spec_l1Out_ev hv hx) (Ev.bind (l4Equal_gen (I (deg n (arcs es x))) row (by rw [I_length]; omega)) ?_))
    · simp only [spec_ScoreFirst.l0, spec_l1All_eq3 hv, Option.bind_some]
      rw [if_pos (by omega), e1]
    · simp only [fstD, decide_eq_true_eq]
      split
      · exact Ev.now _
      · exact spec_ScoreFirst_loop row hr d (x + 1) (by omega)
theorem spec_ScoreFirst_ev (row : List Int) (hr : row.length ≤ 1048576) : Ev (fun k => spec_ScoreFirst.f k n (mkE es) row) (fstD n es row 0 (2 ^ es.length)) := by
  unfold spec_ScoreFirst.f
  refine Ev.bind (spec_G hv) ?_
  simp only [if_true]
  exact spec_ScoreFirst_loop hv row hr (2 ^ es.length) 0 (by omega)
end
theorem ScoreFirst_both {a : Int} (ha : InR a) {l : List E} (hl : WfE l) (row : List Int) (hr : row.length ≤ 1048576) : ∃ r, Ev (fun k => impl_ScoreFirst.f k a l row) r ∧ Ev (fun k => spec_ScoreFirst.f k a l row) r := by
  cases h : isG a l with
  | false =>
    refine ⟨(0, false), ?_, ?_⟩
    · unfold impl_ScoreFirst.f
      refine Ev.bind (h ▸ impl_WayGraph_ev a l hl) ?_
      simp only [Bool.false_eq_true, if_false]
      exact Ev.now _
    · unfold spec_ScoreFirst.f
      refine Ev.bind (h ▸ spec_WayGraph_ev a ha l hl) ?_
      simp only [Bool.false_eq_true, if_false]
      exact Ev.now _
  | true =>
    obtain ⟨n, es, rfl, rfl, hv⟩ := isG_mk h
    exact ⟨_, impl_ScoreFirst_ev hv row hr, spec_ScoreFirst_ev hv row hr⟩
end Go.Proofs.Ytfijegfjpagjoaa.Q
