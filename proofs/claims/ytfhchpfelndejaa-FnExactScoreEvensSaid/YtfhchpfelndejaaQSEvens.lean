/- Both ScoreEvens count the directions that have the outdegrees of their turned ones. The numbers are of 64 bits. -/
import Derived.Test.YtfhchpfelndejaaQSRow
import Derived.Test.YtfhchpfelndejaaQCount
import Derived.Test.YtfhchpfelndejaaG47
import Derived.Test.YtfhchpfelndejaaG46
namespace Go.Proofs.Ytfhchpfelndejaa.Q
open Go.RowKit Go.Proofs.Ytfhchpfelndejaa.G Go.Proofs.YtfhchpfelndejaaW.PrintWords Go.Proofs.YtfhchpfelndejaaW.PrintLast Go.Proofs.YtfhchpfelndejaaW.PrintMore
set_option linter.unusedVariables false
set_option linter.unusedSimpArgs false
def evenB (n : Nat) (es : List (Nat × Nat)) (x : Nat) : Bool := decide (deg n (arcs es x) = deg n (arcs es (2 ^ es.length - 1 - x)))
section
variable {n : Nat} {es : List (Nat × Nat)} (hv : Val n es)
include hv
theorem impl_ScoreEven_ev {o : Nat} (ho : o < 2 ^ es.length) : Ev (fun k => impl_ScoreEven.f k n (mkE es) o) (evenB n es o) := by
  unfold impl_ScoreEven.f
  refine Ev.bind (impl_WayIn_yes hv ho) ?_
  simp only [if_true, impl_turned_eq hv ho, Option.bind_some]
  refine Ev.bind (impl_outOf_ev hv ho) (Ev.bind (impl_outOf_ev hv (by omega)) ?_)
  exact Ev.bind (slices_Equal_ev (by rw [deg_len, deg_len]) (by rw [deg_len]; have := hv.le; omega)) (Ev.now _)
theorem impl_ScoreEvens_ev : Ev (fun k => impl_ScoreEvens.f k n (mkE es)) (((cnt (evenB n es) 0 (2 ^ es.length) : Nat) : Int), true) := by
  have h2 := hv.two
  unfold impl_ScoreEvens.f
  refine Ev.bind (impl_G hv) ?_
  simp only [if_true, shl_len hv]
  exact Ev.bind (impl_count_ev _ (evenB n es) (2 ^ es.length) (by omega) fun x hx => impl_ScoreEven_ev hv hx) (Ev.now _)
theorem spec_l4Even_ev {o : Nat} (ho : o < 2 ^ es.length) : Ev (fun k => spec_l4Even.f k n (mkE es) o) (evenB n es o) := by
  have h2 := hv.two
  have hp := Nat.two_pow_pos es.length
  have e : wrap64 (((2 ^ es.length - 1 : Nat) : Int) - (o : Int)) = ((2 ^ es.length - 1 - o : Nat) : Int) := by
    generalize 2 ^ es.length = m at *; unfold wrap64; omega
  unfold spec_l4Even.f
  simp only [spec_l1All_eq_ hv, Option.bind_some, e]
  refine Ev.bind (spec_l4Row_ev hv ho) (Ev.bind (spec_l4Row_ev hv (by omega)) (Ev.eq_ (Ev.now _) ?_))
  rw [evenB, Bool.eq_iff_iff, beq_iff_eq, decide_eq_true_eq, ← row_iff hv]
  exact ⟨fun h => Int.ofNat.inj h, fun h => by rw [h]⟩
theorem spec_ScoreEvens_ev : Ev (fun k => spec_ScoreEvens.f k n (mkE es)) (((cnt (evenB n es) 0 (2 ^ es.length) : Nat) : Int), true) := by
  have h2 := hv.two
  have hp := Nat.two_pow_pos es.length
  unfold spec_ScoreEvens.f
  refine Ev.bind (spec_G hv) ?_
  simp only [if_true]
  have h := loop_cnt (fun k c i => spec_ScoreEvens.l0 k c i n (mkE es)) (fun k x => spec_l4Even.f k n (mkE es) x) (evenB n es) (2 ^ es.length) (fun c => (c, true)) (fun x hx => spec_l4Even_ev hv hx) (fun k c i hi hc => by
    simp only [spec_ScoreEvens.l0, spec_l1All_eq_ hv, Option.bind_some]
    rw [if_pos (by omega), wrap_add _ (by omega), wrap_add _ (by omega)]) (fun k c => by
    simp only [spec_ScoreEvens.l0, spec_l1All_eq_ hv, Option.bind_some]
    rw [if_neg (by omega)]) (2 ^ es.length) 0 0 (by omega) (by omega)
  exact Ev.eq_ h (by simp)
end
theorem ScoreEvens_both {a : Int} (ha : InR a) {l : List E} (hl : WfE l) : ∃ r, Ev (fun k => impl_ScoreEvens.f k a l) r ∧ Ev (fun k => spec_ScoreEvens.f k a l) r := by
  cases h : isG a l with
  | false =>
    refine ⟨(0, false), ?_, ?_⟩
    · unfold impl_ScoreEvens.f
      refine Ev.bind (h ▸ impl_WayGraph_ev a l hl) ?_
      simp only [Bool.false_eq_true, if_false]
      exact Ev.now _
    · unfold spec_ScoreEvens.f
      refine Ev.bind (h ▸ spec_WayGraph_ev a ha l hl) ?_
      simp only [Bool.false_eq_true, if_false]
      exact Ev.now _
  | true =>
    obtain ⟨n, es, rfl, rfl, hv⟩ := isG_mk h
    exact ⟨_, impl_ScoreEvens_ev hv, spec_ScoreEvens_ev hv⟩
end Go.Proofs.Ytfhchpfelndejaa.Q
