/- Sets of nodes without edges: the program's and the reference's tests of them are one. The graph is valid, the sets are small. -/
import Derived.Test.YtfhchpfelndejaaQNext
import Derived.Test.YtfhchpfelndejaaG12
namespace Go.Proofs.Ytfhchpfelndejaa.Q
open Go.RowKit Go.Proofs.Ytfhchpfelndejaa.G Go.Proofs.YtfhchpfelndejaaW.PrintWords Go.Proofs.YtfhchpfelndejaaW.PrintLast Go.Proofs.YtfhchpfelndejaaW.PrintMore
set_option linter.unusedVariables false
set_option linter.unusedSimpArgs false

/-- No edge joins two nodes of a set. -/
def freeB (es : List (Nat × Nat)) (set : Nat) : Bool := es.all fun e => !(set.testBit e.1 && set.testBit e.2)
section
variable {n : Nat} {es : List (Nat × Nat)} (hv : Val n es)
include hv
theorem impl_isFree_loop (set : Nat) (hs : set < 2 ^ 62) : ∀ d i : Nat, i + d = es.length → Ev (fun k => impl_isFree.l0 k set (mkE es) ((mkE es).length : Int) (i : Int)) ((es.drop i).all fun e => !(set.testBit e.1 && set.testBit e.2))
  | 0, i, h => by
    refine Ev.step (f := fun _ => some true) (fun k => ?_) (Ev.eq_ (Ev.now _) ?_)
    · simp only [impl_isFree.l0]
      rw [if_neg (by rw [mkE_length]; omega)]
    · rw [List.drop_of_length_le (by omega)]; rfl
  | d + 1, i, h => by
    have hi : i < es.length := by omega
    have hl := hv.len
    have h5 := hv.le
    have hlt := hv.lt _ (List.getElem_mem hi)
    have e1 : wrap64 ((i : Int) + 1) = ((i + 1 : Nat) : Int) := by unfold wrap64; omega
    have ih := impl_isFree_loop set hs d (i + 1) (by omega)
    rw [List.drop_eq_getElem_cons hi, List.all_cons]
    cases hc : (set.testBit es[i].1 && set.testBit es[i].2) with
    | true =>
      rw [Bool.and_eq_true] at hc
      refine Ev.step (f := fun _ => some false) (fun k => ?_) (Ev.eq_ (Ev.now _) rfl)
      simp only [impl_isFree.l0]
      rw [if_pos (by rw [mkE_length]; omega), if_pos (by omega), if_pos (by rw [mkE_length]; omega), rdE_mk i hi]
      simp only
      rw [if_pos (by omega), bit_nat _ _ hs (by omega), if_pos (by rw [hc.1]; rfl), if_pos (by omega), bit_nat _ _ hs (by omega), if_pos (by rw [hc.2]; rfl)]
    | false =>
      simp only [Bool.not_false, Bool.true_and]
      refine Ev.step (fun k => ?_) ih
      simp only [impl_isFree.l0]
      rw [if_pos (by rw [mkE_length]; omega), if_pos (by omega), if_pos (by rw [mkE_length]; omega), rdE_mk i hi]
      simp only
      rw [if_pos (by omega), bit_nat _ _ hs (by omega), e1]
      cases h1 : set.testBit es[i].1 with
      | false => rw [if_neg (by simp)]
      | true =>
        rw [h1, Bool.true_and] at hc
        rw [if_pos (by rfl), if_pos (by omega), bit_nat _ _ hs (by omega), hc, if_neg (by simp)]
theorem impl_isFree_ev (set : Nat) (hs : set < 2 ^ 62) : Ev (fun k => impl_isFree.f k n (mkE es) set) (freeB es set) :=
  Ev.congr (fun k => rfl) (impl_isFree_loop hv set hs es.length 0 (by omega))
theorem spec_l4Inside_loop (set : Nat) (hs : set < 2 ^ 62) : ∀ (d i c : Nat), i + d = es.length → c ≤ i → Ev (fun k => spec_l4Inside.l0 k set (c : Int) (i : Int) n (mkE es)) (((c + ((es.drop i).filter fun e => set.testBit e.1 && set.testBit e.2).length : Nat)) : Int)
  | 0, i, c, h, hc => by
    refine Ev.step (f := fun _ => some (c : Int)) (fun k => ?_) (Ev.eq_ (Ev.now _) ?_)
    · simp only [spec_l4Inside.l0]
      rw [if_neg (by rw [mkE_length]; omega)]
    · rw [List.drop_of_length_le (by omega)]; simp
  | d + 1, i, c, h, hc => by
    have hi : i < es.length := by omega
    have hl := hv.len
    have h5 := hv.le
    have hlt := hv.lt _ (List.getElem_mem hi)
    have e1 : wrap64 ((i : Int) + 1) = ((i + 1 : Nat) : Int) := by unfold wrap64; omega
    rw [List.drop_eq_getElem_cons hi, List.filter_cons]
    have hstep : ∀ k, spec_l4Inside.l0 (k + 1) set (c : Int) (i : Int) n (mkE es) = spec_l4Inside.l0 k set (((c + (set.testBit es[i].1 && set.testBit es[i].2).toNat : Nat)) : Int) ((i + 1 : Nat) : Int) n (mkE es) := by
      intro k
      simp only [spec_l4Inside.l0]
      rw [if_pos (by rw [mkE_length]; omega), if_pos (by omega), rdE_mk i hi]
      simp only
      rw [if_pos (by omega), if_pos (by omega), bit_nat _ _ hs (by omega), bit_nat _ _ hs (by omega), e1]
      congr 1
      cases set.testBit es[i].1 <;> cases set.testBit es[i].2 <;> simp [wrap64] <;> omega
    refine Ev.step hstep ?_
    cases hb : (set.testBit es[i].1 && set.testBit es[i].2) with
    | false => exact Ev.eq_ (spec_l4Inside_loop set hs d (i + 1) (c + false.toNat) (by omega) (by simp; omega)) (by simp)
    | true => exact Ev.eq_ (spec_l4Inside_loop set hs d (i + 1) (c + true.toNat) (by omega) (by simp; omega)) (by simp; omega)
theorem spec_l6kFree_ev (set : Nat) (hs : set < 2 ^ 62) : Ev (fun k => spec_l6kFree.f k n (mkE es) set) (freeB es set) := by
  unfold spec_l6kFree.f
  have h : Ev (fun k => spec_l4Inside.f k n (mkE es) set) _ := Ev.congr (fun k => rfl) (spec_l4Inside_loop hv set hs es.length 0 0 (by omega) (by omega))
  refine Ev.bind h (Ev.eq_ (Ev.now _) ?_)
  rw [Bool.eq_iff_iff, beq_iff_eq]
  simp only [freeB, List.drop_zero, Nat.zero_add, List.all_eq_true, Bool.not_eq_true']
  constructor
  · intro h0 e he
    have : ((es.filter fun e => set.testBit e.1 && set.testBit e.2).length) = 0 := by omega
    rw [List.length_eq_zero_iff, List.filter_eq_nil_iff] at this
    have := this e he
    simpa using this
  · intro h0
    have : (es.filter fun e => set.testBit e.1 && set.testBit e.2) = [] := by
      rw [List.filter_eq_nil_iff]
      intro e he
      rw [h0 e he]
      simp
    rw [this]; rfl
end

end Go.Proofs.Ytfhchpfelndejaa.Q
