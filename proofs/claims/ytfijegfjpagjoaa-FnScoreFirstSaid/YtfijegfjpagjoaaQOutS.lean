/- l1Out tells the outdegrees. The graph is valid. -/
import Derived.Test.YtfijegfjpagjoaaQOut
import Derived.Test.YtfijegfjpagjoaaG45
namespace Go.Proofs.Ytfijegfjpagjoaa.Q
open Go.RowKit Go.Proofs.Ytfijegfjpagjoaa.G Go.Proofs.YtfijegfjpagjoaaW.PrintWords Go.Proofs.YtfijegfjpagjoaaW.PrintLast Go.Proofs.YtfijegfjpagjoaaW.PrintMore
set_option linter.unusedVariables false
set_option linter.unusedSimpArgs false
section
variable {n : Nat} {es : List (Nat × Nat)} (hv : Val n es)
include hv
omit hv in
theorem degStep_bd {t : List Nat} {i : Nat} (hb : ∀ v, t.getD v 0 ≤ i) (x : Nat × Nat) (v : Nat) : (degStep t x).getD v 0 ≤ i + 1 := by
  have h1 := hb v
  have h2 := hb x.1
  unfold degStep
  by_cases hvx : x.1 = v
  · subst hvx
    by_cases hl : x.1 < t.length
    · rw [List.getD_eq_getElem?_getD, List.getElem?_set_self hl]
      exact Nat.succ_le_succ h2
    · rw [List.set_eq_of_length_le (by omega)]; exact Nat.le_succ_of_le h1
  · rw [List.getD_eq_getElem?_getD, List.getElem?_set_ne hvx, ← List.getD_eq_getElem?_getD]
    exact Nat.le_succ_of_le h1
theorem spec_l1Out_loop {o : Nat} (ho : o < 2 ^ es.length) : ∀ (d i : Nat) (t : List Nat), i + d = es.length → t.length = n → (∀ v, t.getD v 0 ≤ i) → Ev (fun k => spec_l1Out.l0 k (o : Int) (I t) (i : Int) n (mkE es)) (I (((arcs es o).drop i).foldl degStep t))
  | 0, i, t, h, hs, hb => by
    refine Ev.step (f := fun _ => some (I t)) (fun k => ?_) (Ev.eq_ (Ev.now _) ?_)
    · simp only [spec_l1Out.l0]
      rw [if_neg (by rw [mkE_length]; omega)]
    · rw [List.drop_of_length_le (by rw [arcs_length]; omega)]; rfl
  | d + 1, i, t, h, hs, hb => by
    have hi : i < es.length := by omega
    have hl := hv.len
    have h5 := hv.le
    have e1 : wrap64 ((i : Int) + 1) = ((i + 1 : Nat) : Int) := wrap_add _ (lt62 (by omega))
    have hbd := arcs_bd hv (o := o) i hi
    rw [List.drop_eq_getElem_cons (by rw [arcs_length]; exact hi), List.foldl_cons]
    have hee := spec_ends_eq hv ho i hi
    generalize (arcs es o)[i]'(by rw [arcs_length]; exact hi) = x at hbd hee
    have hbx := hb x.1
    have e2 : wrap64 (((t.getD x.1 0 : Nat) : Int) + 1) = ((t.getD x.1 0 + 1 : Nat) : Int) := wrap_add _ (lt62 (Nat.lt_of_le_of_lt hbx (by omega)))
    have ih := spec_l1Out_loop ho d (i + 1) (degStep t x) (by omega) (by simp [degStep, hs]) (degStep_bd hb x)
    refine Ev.step (fun k => ?_) ih
    simp only [spec_l1Out.l0]
    rw [if_pos (by rw [mkE_length]; omega), hee]
    simp only [Option.bind_some]
    rw [if_pos (Int.natCast_nonneg _), if_pos (by rw [I_length, hs]; omega), rd_nat, e1, e2, set_nat]
    rfl
theorem spec_l1Out_ev {o : Nat} (ho : o < 2 ^ es.length) : Ev (fun k => spec_l1Out.f k n (mkE es) o) (I (deg n (arcs es o))) := by
  have h := spec_l1Out_loop hv ho es.length 0 (List.replicate n 0) (by omega) (by simp) (fun v => by rw [List.getD_eq_getElem?_getD, List.getElem?_replicate]; split <;> simp)
  have h5 := hv.le
  refine Ev.congr (fun k => ?_) h
  unfold spec_l1Out.f
  rw [if_pos (by omega), if_pos (by omega)]
  simp [I]
end
end Go.Proofs.Ytfijegfjpagjoaa.Q
