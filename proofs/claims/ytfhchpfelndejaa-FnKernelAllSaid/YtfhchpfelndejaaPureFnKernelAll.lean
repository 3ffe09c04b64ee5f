/- The law FnKernelAll returns true. The elements of the code are bytes. -/
import Derived.Test.YtfhchpfelndejaaQKUniq
import Derived.Test.YtfhchpfelndejaaQKAll
import Derived.Test.YtfhchpfelndejaaQPlainIn
import Derived.Test.YtfhchpfelndejaaQOne
import Derived.Test.YtfhchpfelndejaaQLawSame
import Derived.Test.YtfhchpfelndejaaG11
namespace Go.Proofs.Ytfhchpfelndejaa.Q
open Go.RowKit Go.Proofs.Ytfhchpfelndejaa.G Go.Proofs.YtfhchpfelndejaaW.PrintWords Go.Proofs.YtfhchpfelndejaaW.PrintLast Go.Proofs.YtfhchpfelndejaaW.PrintMore
set_option linter.unusedVariables false
set_option linter.unusedSimpArgs false
section
variable (o : Int) (ks : List Nat) (hk : ∀ x ∈ ks, x < 32) (hl : ks.length ≤ 32) (hap : ∀ i j (hi : i < ks.length) (hj : j < ks.length), i ≠ j → ks[i] &&& (ks[i] ^^^ ks[j]) ≠ 0) (a : Int) (l : List E) (r : Bool)
include hk hl hap
theorem kall_l1 (i : Nat) (hi : i < ks.length) (he : Ev (fun k => laws_FnKernelAll.l0 k o (I ks) ((i + 1 : Nat) : Int) a l) r) : ∀ (d j : Nat), j + d = ks.length → Ev (fun k => laws_FnKernelAll.l1 k o (I ks) (i : Int) (j : Int) a l) r
  | 0, j, h => by
    have e1 : wrap64 ((i : Int) + 1) = ((i + 1 : Nat) : Int) := wrap_add _ (by omega)
    refine Ev.step (fun k => ?_) he
    simp only [laws_FnKernelAll.l1]
    rw [if_neg (by rw [I_length]; omega), e1]
  | d + 1, j, h => by
    have hj : j < ks.length := by omega
    have e1 : wrap64 ((j : Int) + 1) = ((j + 1 : Nat) : Int) := wrap_add _ (by omega)
    have gi : ks.getD i 0 = ks[i] := by rw [List.getD_eq_getElem?_getD, List.getElem?_eq_getElem hi]; rfl
    have gj : ks.getD j 0 = ks[j] := by rw [List.getD_eq_getElem?_getD, List.getElem?_eq_getElem hj]; rfl
    refine Ev.step (fun k => ?_) (kall_l1 i hi he d (j + 1) (by omega))
    simp only [laws_FnKernelAll.l1]
    rw [if_pos (by rw [I_length]; omega), e1]
    by_cases e : i = j
    · rw [if_pos (by rw [e])]
    · have hne := hap i j hi hj e
      rw [if_neg (show ¬ (i : Int) = (j : Int) from fun h => e (Int.ofNat.inj h)), if_pos (Int.natCast_nonneg i), if_pos (by rw [I_length]; omega), if_pos (Int.natCast_nonneg j), rd_nat, rd_nat, gi, gj, andNot_nat _ _ (lt62 (hk _ (List.getElem_mem hi))) (lt62 (hk _ (List.getElem_mem hj)))]
      rw [if_neg (show ¬ ((ks[i] &&& (ks[i] ^^^ ks[j]) : Nat) : Int) = 0 from fun h => hne (Int.ofNat.inj h))]
theorem kall_l0 (he : Ev (fun k => (impl_PlainIn.f k a l o).bind fun t => if t = true then some (((I ks).length : Int) == 1) else some true) r) : ∀ (d i : Nat), i + d = ks.length → Ev (fun k => laws_FnKernelAll.l0 k o (I ks) (i : Int) a l) r
  | 0, i, h => by
    refine Ev.step (fun k => ?_) he
    simp only [laws_FnKernelAll.l0]
    rw [if_neg (by rw [I_length]; omega)]
  | d + 1, i, h => by
    refine Ev.step (fun k => ?_) (kall_l1 o ks hk hl hap a l r i (by omega) (kall_l0 he d (i + 1) (by omega)) ks.length 0 (by omega))
    simp only [laws_FnKernelAll.l0]
    rw [if_pos (by rw [I_length]; omega)]
    rfl
end
end Go.Proofs.Ytfhchpfelndejaa.Q
namespace Go.Proofs.Ytfhchpfelndejaa.Pure
open Go.RowKit Go.Proofs.Ytfhchpfelndejaa.G Go.Proofs.Ytfhchpfelndejaa.Q Go.Proofs.YtfhchpfelndejaaW.PrintWords Go.Proofs.YtfhchpfelndejaaW.PrintLast Go.Proofs.YtfhchpfelndejaaW.PrintMore
theorem FnKernelAll : laws_FnKernelAll.Pure := by
  intro code _ _ hcode
  refine Ev.rounds (g := fun k => laws_FnKernelAll.f k code) ?_
  obtain ⟨a, l, o, hg, ha, hl⟩ := l91One_ev hcode
  have hD : Ev (fun k => spec_DrawKernelAll.f k code) (a, l, o) := by
    unfold spec_DrawKernelAll.f
    exact Ev.bind hg (Ev.now _)
  unfold laws_FnKernelAll.f
  by_cases hc : (code.length : Int) > 1048576
  · simp only [hc, if_true]; exact Ev.now _
  · simp only [hc, if_false]
    refine Ev.bind hD ?_
    rcases way_split ha hl o with ⟨n, es, o', rfl, rfl, rfl, hv, ho⟩ | ⟨h1, h2⟩
    · have h32 := two_n hv.le
      have hkl : (kers n es o').length ≤ 32 := by rw [kers, sel_len]; exact Nat.le_trans (cnt_le _ _ _) h32
      have hlt : ∀ x ∈ kers n es o', x < 32 := fun x hx => Nat.lt_of_lt_of_le ((kers_mem hv).1 hx).1 h32
      refine Ev.bind (impl_KernelAll_ev hv ho) (Ev.bind (spec_KernelAll_ev hv ho) ?_)
      simp only [bne_self_eq_false, Bool.false_eq_true, if_false]
      refine Ev.bind (sameInts_ev _ (by rw [I_length]; omega)) ?_
      simp only [if_true, Bool.not_true]
      refine Ev.step (fun k => by simp only [laws_FnKernelAll.j0, Bool.false_eq_true, if_false]; rfl) ?_
      refine kall_l0 (o' : Int) (kers n es o') hlt hkl ?_ _ _ true ?_ (kers n es o').length 0 (by omega)
      · intro i j hi hj hne
        obtain ⟨a1, a2⟩ := (kers_mem hv).1 (List.getElem_mem hi)
        obtain ⟨b1, b2⟩ := (kers_mem hv).1 (List.getElem_mem hj)
        refine kernel_apart hv a2 b2 a1 b1 fun e => hne ?_
        exact (List.getElem_inj (sel_nodup (kernelB n es o') (2 ^ n) 0)).1 e
      · refine Ev.bind (impl_PlainIn_ev hv ho) ?_
        cases hp : plainB n (arcs es o') with
        | false => simp only [Bool.false_eq_true, if_false]; exact Ev.now _
        | true =>
          simp only [if_true]
          refine Ev.eq_ (Ev.now _) ?_
          rw [I_length, kers_plain hv ho hp]; rfl
    · have h3 : Ev (fun k => impl_KernelAll.f k a l o) ([], false) := by
        unfold impl_KernelAll.f
        refine Ev.bind h1 ?_
        simp only [Bool.false_eq_true, if_false]
        exact Ev.now _
      have h4 : Ev (fun k => spec_KernelAll.f k a l o) ([], false) := by
        unfold spec_KernelAll.f
        refine Ev.bind h2 ?_
        simp only [Bool.false_eq_true, if_false]
        exact Ev.now _
      refine Ev.bind h3 (Ev.bind h4 ?_)
      simp only [bne_self_eq_false, Bool.false_eq_true, if_false]
      refine Ev.bind (sameInts_ev [] (by simp)) ?_
      simp only [if_true, Bool.not_false]
      refine Ev.step (fun k => by simp only [laws_FnKernelAll.j0, if_true, BEq.rfl]; rfl) ?_
      exact Ev.bind (sameInts_ev [] (by simp)) (Ev.now _)
end Go.Proofs.Ytfhchpfelndejaa.Pure
