/- Both FlipWhole count the sets of edges that leave as many parts as all edges. The numbers are of 64 bits. -/
import Derived.Test.YtlpkagcnkaijlaaQParts
import Derived.Test.YtlpkagcnkaijlaaQCount
import Derived.Test.YtlpkagcnkaijlaaQSem
import Derived.Test.YtlpkagcnkaijlaaG25
import Derived.Test.YtlpkagcnkaijlaaG24
namespace Go.Proofs.Ytlpkagcnkaijlaa.Q
open Go.RowKit Go.Proofs.Ytlpkagcnkaijlaa.G Go.Proofs.YtlpkagcnkaijlaaW.PrintWords Go.Proofs.YtlpkagcnkaijlaaW.PrintLast Go.Proofs.YtlpkagcnkaijlaaW.PrintMore
set_option linter.unusedVariables false
set_option linter.unusedSimpArgs false
def wholeP (n : Nat) (es : List (Nat × Nat)) (x : Nat) : Bool := decide (parts n (pick es x) = parts n es)
def wholeN (n : Nat) (es : List (Nat × Nat)) : Nat := cnt (wholeP n es) 0 (2 ^ es.length)
section
variable {n : Nat} {es : List (Nat × Nat)} (hv : Val n es)
include hv
theorem spec_l1All_eq : spec_l1All.f n (mkE es) = some ((2 ^ es.length - 1 : Nat) : Int) := by
  have h2 := hv.two
  have hp := Nat.two_pow_pos es.length
  unfold spec_l1All.f
  rw [shl_len hv]
  generalize 2 ^ es.length = m at *
  have : wrap64 ((m : Int) - 1) = ((m - 1 : Nat) : Int) := by unfold wrap64; omega
  rw [this]
theorem impl_WayParts_ev : Ev (fun k => impl_WayParts.f k n (mkE es)) (((parts n es : Nat) : Int), true) := by
  have hp := Nat.two_pow_pos es.length
  have h2 := hv.two
  have h : Ev (fun k => impl_partsBy.f k n (mkE es) ((2 ^ es.length - 1 : Nat) : Int)) ((parts n (pick es (2 ^ es.length - 1)) : Nat) : Int) := impl_partsBy_ev hv (by omega)
  rw [pick_all] at h
  unfold impl_WayParts.f
  refine Ev.bind (impl_G hv) ?_
  simp only [if_true, shl_len hv]
  have : wrap64 (((2 ^ es.length : Nat) : Int) - 1) = ((2 ^ es.length - 1 : Nat) : Int) := by generalize 2 ^ es.length = m at *; unfold wrap64; omega
  rw [this]
  exact Ev.bind h (Ev.now _)
theorem impl_FlipWhole_ev : Ev (fun k => impl_FlipWhole.f k n (mkE es)) (((wholeN n es : Nat) : Int), true) := by
  have h2 := hv.two
  unfold impl_FlipWhole.f
  refine Ev.bind (impl_WayParts_ev hv) ?_
  simp only [if_true, shl_len hv]
  refine Ev.bind (impl_count_ev _ (wholeP n es) (2 ^ es.length) (by omega) fun x hx => ?_) (Ev.now _)
  refine Ev.bind (impl_partsBy_ev hv hx) (Ev.eq_ (Ev.now _) ?_)
  rw [Bool.eq_iff_iff, beq_iff_eq, wholeP, decide_eq_true_eq]
  exact ⟨fun h => Int.ofNat.inj h, fun h => by rw [h]⟩
theorem spec_FlipWhole_loop : ∀ (d x c : Nat), x + d = 2 ^ es.length → c ≤ x → Ev (fun k => spec_FlipWhole.l0 k (c : Int) (x : Int) (n : Int) (mkE es)) (((c + cnt (wholeP n es) x d : Nat) : Int), true)
  | 0, x, c, h, hc => by
    have hp := Nat.two_pow_pos es.length
    refine Ev.step (f := fun _ => some ((c : Int), true)) (fun k => ?_) (Ev.eq_ (Ev.now _) (by simp [cnt]))
    simp only [spec_FlipWhole.l0, spec_l1All_eq hv, Option.bind_some]
    rw [if_neg (by omega)]
  | d + 1, x, c, h, hc => by
    have hp := Nat.two_pow_pos es.length
    have h2 := hv.two
    have hx : x < 2 ^ es.length := by omega
    have h1 : Ev (fun k => spec_l1Parts.f k n (mkE es) ((2 ^ es.length - 1 : Nat) : Int)) ((parts n (pick es (2 ^ es.length - 1)) : Nat) : Int) := spec_l1Parts_ev hv (by omega)
    rw [pick_all] at h1
    have ex : wrap64 ((x : Int) + 1) = ((x + 1 : Nat) : Int) := wrap_add _ (by omega)
    have ec : wrap64 ((c : Int) + 1) = ((c + 1 : Nat) : Int) := wrap_add _ (by omega)
    refine Ev.step (f := fun k => (spec_l1Parts.f k n (mkE es) (x : Int)).bind fun t => (spec_l1Parts.f k n (mkE es) ((2 ^ es.length - 1 : Nat) : Int)).bind fun u => if t = u then spec_FlipWhole.l0 k ((c + 1 : Nat) : Int) ((x + 1 : Nat) : Int) (n : Int) (mkE es) else spec_FlipWhole.l0 k (c : Int) ((x + 1 : Nat) : Int) (n : Int) (mkE es)) (fun k => ?_) (Ev.bind (spec_l1Parts_ev hv hx) (Ev.bind h1 ?_))
    · simp only [spec_FlipWhole.l0, spec_l1All_eq hv, Option.bind_some]
      rw [if_pos (by omega), ex, ec]
    · by_cases hq : parts n (pick es x) = parts n es
      · have hw : wholeP n es x = true := by rw [wholeP, hq, decide_eq_true_eq]
        rw [hq]
        simp only [if_true]
        refine Ev.eq_ (spec_FlipWhole_loop d (x + 1) (c + 1) (by omega) (by omega)) ?_
        simp only [cnt, hw, Bool.toNat_true]
        rw [Nat.add_assoc]
      · have hw : wholeP n es x = false := by rw [wholeP, decide_eq_false_iff_not]; exact hq
        have hq' : ¬ ((parts n (pick es x) : Nat) : Int) = ((parts n es : Nat) : Int) := fun h => hq (Int.ofNat.inj h)
        simp only [hq', if_false]
        refine Ev.eq_ (spec_FlipWhole_loop d (x + 1) c (by omega) (by omega)) ?_
        simp only [cnt, hw, Bool.toNat_false, Nat.zero_add]
theorem spec_FlipWhole_ev : Ev (fun k => spec_FlipWhole.f k n (mkE es)) (((wholeN n es : Nat) : Int), true) := by
  unfold spec_FlipWhole.f
  refine Ev.bind (spec_G hv) ?_
  simp only [if_true]
  refine Ev.eq_ (spec_FlipWhole_loop hv (2 ^ es.length) 0 0 (by omega) (by omega)) ?_
  rw [Nat.zero_add, wholeN]
end
theorem FlipWhole_both {a : Int} (ha : InR a) {l : List E} (hl : WfE l) : ∃ r, Ev (fun k => impl_FlipWhole.f k a l) r ∧ Ev (fun k => spec_FlipWhole.f k a l) r := by
  cases h : isG a l with
  | false =>
    refine ⟨(0, false), ?_, ?_⟩
    · unfold impl_FlipWhole.f impl_WayParts.f
      refine Ev.bind (a := ((0 : Int), false)) (Ev.bind (h ▸ impl_WayGraph_ev a l hl) ?_) ?_
      · simp only [Bool.false_eq_true, if_false]
        exact Ev.now _
      · simp only [Bool.false_eq_true, if_false]
        exact Ev.now _
    · unfold spec_FlipWhole.f
      refine Ev.bind (h ▸ spec_WayGraph_ev a ha l hl) ?_
      simp only [Bool.false_eq_true, if_false]
      exact Ev.now _
  | true =>
    obtain ⟨n, es, rfl, rfl, hv⟩ := isG_mk h
    exact ⟨_, impl_FlipWhole_ev hv, spec_FlipWhole_ev hv⟩
end Go.Proofs.Ytlpkagcnkaijlaa.Q
