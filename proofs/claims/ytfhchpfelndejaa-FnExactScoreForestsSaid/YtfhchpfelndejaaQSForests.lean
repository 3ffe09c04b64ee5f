/- Both ScoreForests count the sets of edges without rounds. The numbers are of 64 bits. -/
import Derived.Test.YtfhchpfelndejaaQOnes
import Derived.Test.YtfhchpfelndejaaQParts
import Derived.Test.YtfhchpfelndejaaQCount
import Derived.Test.YtfhchpfelndejaaQSem
import Derived.Test.YtfhchpfelndejaaG26
import Derived.Test.YtfhchpfelndejaaG27
namespace Go.Proofs.Ytfhchpfelndejaa.Q
open Go.RowKit Go.Proofs.Ytfhchpfelndejaa.G Go.Proofs.YtfhchpfelndejaaW.PrintWords Go.Proofs.YtfhchpfelndejaaW.PrintLast Go.Proofs.YtfhchpfelndejaaW.PrintMore
set_option linter.unusedVariables false
set_option linter.unusedSimpArgs false
def forB (n : Nat) (es : List (Nat × Nat)) (x : Nat) : Bool := decide (parts n (pick es x) + pop x = n)
def forN (n : Nat) (es : List (Nat × Nat)) : Nat := cnt (forB n es) 0 (2 ^ es.length)
theorem pop_10 (x : Nat) : pop x ≤ 10 := popc_le 10 x
section
variable {n : Nat} {es : List (Nat × Nat)} (hv : Val n es)
include hv
theorem impl_isForest_ev {x : Nat} (hx : x < 2 ^ es.length) : Ev (fun k => impl_isForest.f k n (mkE es) x) (forB n es x) := by
  have h2 := hv.two
  have hp := (parts_two (hv.part (pick_sub es x))).2.2.1
  have h5 := hv.le
  have h10 := pop_10 x
  have hx1 : x < 1024 := by omega
  clear h2
  unfold impl_isForest.f
  refine Ev.bind (impl_partsBy_ev hv hx) ?_
  simp only [ones_eq x hx1, Option.bind_some]
  refine Ev.eq_ (Ev.now _) ?_
  have e : wrap64 (((parts n (pick es x) : Nat) : Int) + ((pop x : Nat) : Int)) = ((parts n (pick es x) + pop x : Nat) : Int) := by
    rw [← Int.natCast_add]
    exact wrap_nat _ (Nat.lt_of_le_of_lt (Nat.add_le_add hp h10) (by omega))
  rw [e, Bool.eq_iff_iff, beq_iff_eq, forB, decide_eq_true_eq]
  exact ⟨fun h => Int.ofNat.inj h, fun h => by rw [h]⟩
theorem impl_ScoreForests_ev : Ev (fun k => impl_ScoreForests.f k n (mkE es)) (((forN n es : Nat) : Int), true) := by
  have h2 := hv.two
  unfold impl_ScoreForests.f
  refine Ev.bind (impl_G hv) ?_
  simp only [if_true, shl_len hv]
  exact Ev.bind (impl_count_ev _ (forB n es) (2 ^ es.length) (by omega) fun x hx => impl_isForest_ev hv hx) (Ev.now _)
omit hv in
theorem spec_l4Size_ev (x : Nat) (hx : x < 1024) : Ev (fun k => spec_l4Size.f k (x : Int)) ((pop x : Nat) : Int) := by
  have h := loop_half (fun k x c => spec_l4Size.l0 k x c) (fun k x c => rfl) 10 x 0 (by omega) (by omega)
  exact Ev.eq_ h (by rw [Nat.zero_add]; rfl)
theorem spec_forB {x : Nat} (hx : x < 2 ^ es.length) : Ev (fun k => (spec_l1Parts.f k n (mkE es) x).bind fun t => (spec_l4Size.f k x).bind fun u => some (decide (t = wrap64 ((n : Int) - u)))) (forB n es x) := by
  have h2 := hv.two
  have h5 := hv.le
  have h10 := pop_10 x
  refine Ev.bind (spec_l1Parts_ev hv hx) (Ev.bind (spec_l4Size_ev x (by omega)) (Ev.eq_ (Ev.now _) ?_))
  clear h2
  have e : wrap64 ((n : Int) - ((pop x : Nat) : Int)) = (n : Int) - ((pop x : Nat) : Int) := wrap_int _ (by omega) (by omega)
  rw [e, forB, Bool.eq_iff_iff, decide_eq_true_eq, decide_eq_true_eq]
  generalize parts n (pick es x) = p
  generalize pop x = q
  omega
theorem spec_ScoreForests_ev : Ev (fun k => spec_ScoreForests.f k n (mkE es)) (((forN n es : Nat) : Int), true) := by
  have h2 := hv.two
  have hp := Nat.two_pow_pos es.length
  have hall : spec_l1All.f n (mkE es) = some ((2 ^ es.length - 1 : Nat) : Int) := by
    unfold spec_l1All.f
    rw [shl_len hv]
    generalize 2 ^ es.length = m at *
    have : wrap64 ((m : Int) - 1) = ((m - 1 : Nat) : Int) := by unfold wrap64; omega
    rw [this]
  unfold spec_ScoreForests.f
  refine Ev.bind (spec_G hv) ?_
  simp only [if_true]
  have h := loop_cnt (fun k c i => spec_ScoreForests.l0 k c i n (mkE es)) (fun k x => (spec_l1Parts.f k n (mkE es) x).bind fun t => (spec_l4Size.f k x).bind fun u => some (decide (t = wrap64 ((n : Int) - u)))) (forB n es) (2 ^ es.length) (fun c => (c, true)) (fun x hx => spec_forB hv hx) (fun k c i hi hc => by
    simp only [spec_ScoreForests.l0, hall, Option.bind_some]
    rw [if_pos (by omega), wrap_add _ (by omega), wrap_add _ (by omega)]
    simp only [Option.bind_assoc, Option.bind_some, decide_eq_true_eq]) (fun k c => by
    simp only [spec_ScoreForests.l0, hall, Option.bind_some]
    rw [if_neg (by omega)]) (2 ^ es.length) 0 0 (by omega) (by omega)
  exact Ev.eq_ h (by simp [forN])
end
theorem ScoreForests_both {a : Int} (ha : InR a) {l : List E} (hl : WfE l) : ∃ r, Ev (fun k => impl_ScoreForests.f k a l) r ∧ Ev (fun k => spec_ScoreForests.f k a l) r := by
  cases h : isG a l with
  | false =>
    refine ⟨(0, false), ?_, ?_⟩
    · unfold impl_ScoreForests.f
      refine Ev.bind (h ▸ impl_WayGraph_ev a l hl) ?_
      simp only [Bool.false_eq_true, if_false]
      exact Ev.now _
    · unfold spec_ScoreForests.f
      refine Ev.bind (h ▸ spec_WayGraph_ev a ha l hl) ?_
      simp only [Bool.false_eq_true, if_false]
      exact Ev.now _
  | true =>
    obtain ⟨n, es, rfl, rfl, hv⟩ := isG_mk h
    exact ⟨_, impl_ScoreForests_ev hv, spec_ScoreForests_ev hv⟩
end Go.Proofs.Ytfhchpfelndejaa.Q
