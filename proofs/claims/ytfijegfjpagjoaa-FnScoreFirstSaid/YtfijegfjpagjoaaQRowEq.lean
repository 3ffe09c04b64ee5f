/- Lists of whole numbers held against each other. The first list has at most a million members. -/
import Derived.Test.YtfijegfjpagjoaaQNext
import Derived.Test.YtfijegfjpagjoaaG45
import Derived.Test.YtfijegfjpagjoaaG48
namespace Go.Proofs.Ytfijegfjpagjoaa.Q
open Go.RowKit Go.Proofs.Ytfijegfjpagjoaa.G Go.Proofs.YtfijegfjpagjoaaW.PrintWords Go.Proofs.YtfijegfjpagjoaaW.PrintLast Go.Proofs.YtfijegfjpagjoaaW.PrintMore
set_option linter.unusedVariables false
set_option linter.unusedSimpArgs false
theorem loop_eq (Lf : Nat → Int → Option Bool) (a b : List Int) (hl : a.length = b.length)
    (hs : ∀ k i : Nat, i < a.length → Lf (k + 1) (i : Int) = if rd a (i : Int) = rd b (i : Int) then Lf k ((i + 1 : Nat) : Int) else some false)
    (he : ∀ k, Lf (k + 1) (a.length : Int) = some true) : ∀ d i : Nat, i + d = a.length → Ev (fun k => Lf k (i : Int)) (decide (a.drop i = b.drop i))
  | 0, i, h => by
    have : i = a.length := by omega
    subst this
    refine Ev.step (f := fun _ => some true) (fun k => he k) (Ev.eq_ (Ev.now _) ?_)
    rw [List.drop_of_length_le (Nat.le_refl _), List.drop_of_length_le (by omega)]; rfl
  | d + 1, i, h => by
    have h1 : i < a.length := by omega
    have h2 : i < b.length := by omega
    have g1 : rd a (i : Int) = a[i] := by unfold rd; rw [Int.toNat_natCast, List.getD_eq_getElem?_getD, List.getElem?_eq_getElem h1]; rfl
    have g2 : rd b (i : Int) = b[i] := by unfold rd; rw [Int.toNat_natCast, List.getD_eq_getElem?_getD, List.getElem?_eq_getElem h2]; rfl
    by_cases hx : a[i] = b[i]
    · refine Ev.step (fun k => ?_) (Ev.eq_ (loop_eq Lf a b hl hs he d (i + 1) (by omega)) ?_)
      · rw [hs k i h1, g1, g2, if_pos hx]
      · rw [List.drop_eq_getElem_cons h1, List.drop_eq_getElem_cons h2, hx]
        simp only [List.cons.injEq, true_and]
    · refine Ev.step (f := fun _ => some false) (fun k => ?_) (Ev.eq_ (Ev.now _) ?_)
      · rw [hs k i h1, g1, g2, if_neg hx]
      · rw [List.drop_eq_getElem_cons h1, List.drop_eq_getElem_cons h2]
        symm; rw [decide_eq_false_iff_not]
        intro h; exact hx (List.cons.inj h).1
theorem slices_Equal_gen (a b : List Int) (hl : a.length ≤ 1048576) : Ev (fun k => slices_Equal_int_int.f k a b) (decide (a = b)) := by
  unfold slices_Equal_int_int.f
  by_cases h : a.length = b.length
  · have h' : (a.length : Int) = (b.length : Int) := by rw [h]
    simp only [h', if_true]
    refine loop_eq (fun k i => slices_Equal_int_int.l0 k a b (b.length : Int) i) a b h (fun k i hi => ?_) (fun k => ?_) a.length 0 (by omega)
    · have e1 : wrap64 ((i : Int) + 1) = ((i + 1 : Nat) : Int) := by unfold wrap64; omega
      simp only [slices_Equal_int_int.l0]
      rw [if_pos (by omega), if_pos (by omega), if_pos (by omega), if_pos (by omega), e1]
    · simp only [slices_Equal_int_int.l0]
      rw [if_neg (by omega)]
  · have h' : ¬ (a.length : Int) = (b.length : Int) := by omega
    simp only [h', if_false]
    refine Ev.eq_ (Ev.now _) ?_
    symm; rw [decide_eq_false_iff_not]
    intro e; exact h (by rw [e])
theorem l4Equal_gen (a b : List Int) (hl : a.length ≤ 1048576) : Ev (fun k => spec_l4Equal.f k a b) (decide (a = b)) := by
  unfold spec_l4Equal.f
  by_cases h : a.length = b.length
  · have h' : (a.length : Int) = (b.length : Int) := by rw [h]
    simp only [h', if_true]
    refine loop_eq (fun k i => spec_l4Equal.l0 k a b i) a b h (fun k i hi => ?_) (fun k => ?_) a.length 0 (by omega)
    · have e1 : wrap64 ((i : Int) + 1) = ((i + 1 : Nat) : Int) := by unfold wrap64; omega
      simp only [spec_l4Equal.l0]
      rw [if_pos (by omega), if_pos (by omega), if_pos (by omega), e1]
    · simp only [spec_l4Equal.l0]
      rw [if_neg (by omega)]
  · have h' : ¬ (a.length : Int) = (b.length : Int) := by omega
    simp only [h', if_false]
    refine Ev.eq_ (Ev.now _) ?_
    symm; rw [decide_eq_false_iff_not]
    intro e; exact h (by rw [e])
end Go.Proofs.Ytfijegfjpagjoaa.Q
