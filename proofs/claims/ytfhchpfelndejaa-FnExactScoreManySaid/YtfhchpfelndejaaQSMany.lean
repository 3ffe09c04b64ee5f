/- Both ScoreMany count the directions of the same outdegrees. The numbers are of 64 bits. -/
import Derived.Test.YtfhchpfelndejaaQSRow
import Derived.Test.YtfhchpfelndejaaQCount
import Derived.Test.YtfhchpfelndejaaG41
import Derived.Test.YtfhchpfelndejaaG40
namespace Go.Proofs.Ytfhchpfelndejaa.Q
open Go.RowKit Go.Proofs.Ytfhchpfelndejaa.G Go.Proofs.YtfhchpfelndejaaW.PrintWords Go.Proofs.YtfhchpfelndejaaW.PrintLast Go.Proofs.YtfhchpfelndejaaW.PrintMore
set_option linter.unusedVariables false
set_option linter.unusedSimpArgs false
def sameRow (n : Nat) (es : List (Nat × Nat)) (o x : Nat) : Bool := decide (deg n (arcs es x) = deg n (arcs es o))
section
variable {n : Nat} {es : List (Nat × Nat)} (hv : Val n es)
include hv
theorem impl_ScoreMany_ev {o : Nat} (ho : o < 2 ^ es.length) : Ev (fun k => impl_ScoreMany.f k n (mkE es) o) (((cnt (sameRow n es o) 0 (2 ^ es.length) : Nat) : Int), true) := by
  have h2 := hv.two
  unfold impl_ScoreMany.f
  refine Ev.bind (impl_WayIn_yes hv ho) ?_
  simp only [if_true, shl_len hv]
  refine Ev.bind (impl_outOf_ev hv ho) ?_
  refine Ev.bind (impl_count_ev _ (sameRow n es o) (2 ^ es.length) (by omega) fun x hx => ?_) (Ev.now _)
  exact Ev.bind (impl_outOf_ev hv hx) (slices_Equal_ev (by rw [deg_len, deg_len]) (by rw [deg_len]; have := hv.le; omega))
theorem spec_sameRow {o x : Nat} (ho : o < 2 ^ es.length) (hx : x < 2 ^ es.length) : Ev (fun k => (spec_l4Row.f k n (mkE es) x).bind fun t => (spec_l4Row.f k n (mkE es) o).bind fun u => some (decide (t = u))) (sameRow n es o x) := by
  refine Ev.bind (spec_l4Row_ev hv hx) (Ev.bind (spec_l4Row_ev hv ho) (Ev.eq_ (Ev.now _) ?_))
  rw [sameRow, Bool.eq_iff_iff, decide_eq_true_eq, decide_eq_true_eq, ← row_iff hv]
  exact ⟨fun h => Int.ofNat.inj h, fun h => by rw [h]⟩
theorem spec_ScoreMany_ev {o : Nat} (ho : o < 2 ^ es.length) : Ev (fun k => spec_ScoreMany.f k n (mkE es) o) (((cnt (sameRow n es o) 0 (2 ^ es.length) : Nat) : Int), true) := by
  have h2 := hv.two
  have hp := Nat.two_pow_pos es.length
  unfold spec_ScoreMany.f
  refine Ev.bind (spec_WayIn_yes hv ho) ?_
  simp only [if_true]
  have h := loop_cnt (fun k c i => spec_ScoreMany.l0 k (o : Int) c i n (mkE es)) (fun k x => (spec_l4Row.f k n (mkE es) x).bind fun t => (spec_l4Row.f k n (mkE es) o).bind fun u => some (decide (t = u))) (sameRow n es o) (2 ^ es.length) (fun c => (c, true)) (fun x hx => spec_sameRow hv ho hx) (fun k c i hi hc => by
    simp only [spec_ScoreMany.l0, spec_l1All_eq_ hv, Option.bind_some]
    rw [if_pos (by omega), wrap_add _ (by omega), wrap_add _ (by omega)]
    simp only [Option.bind_assoc, Option.bind_some, decide_eq_true_eq]) (fun k c => by
    simp only [spec_ScoreMany.l0, spec_l1All_eq_ hv, Option.bind_some]
    rw [if_neg (by omega)]) (2 ^ es.length) 0 0 (by omega) (by omega)
  exact Ev.eq_ h (by simp)
end
theorem ScoreMany_both {a : Int} (ha : InR a) {l : List E} (hl : WfE l) (o : Int) : ∃ r, Ev (fun k => impl_ScoreMany.f k a l o) r ∧ Ev (fun k => spec_ScoreMany.f k a l o) r := by
  rcases way_split ha hl o with ⟨n, es, o', rfl, rfl, rfl, hv, ho⟩ | ⟨h1, h2⟩
  · exact ⟨_, impl_ScoreMany_ev hv ho, spec_ScoreMany_ev hv ho⟩
  · refine ⟨(0, false), ?_, ?_⟩
    · unfold impl_ScoreMany.f
      refine Ev.bind h1 ?_
      simp only [Bool.false_eq_true, if_false]
      exact Ev.now _
    · unfold spec_ScoreMany.f
      refine Ev.bind h2 ?_
      simp only [Bool.false_eq_true, if_false]
      exact Ev.now _
end Go.Proofs.Ytfhchpfelndejaa.Q
