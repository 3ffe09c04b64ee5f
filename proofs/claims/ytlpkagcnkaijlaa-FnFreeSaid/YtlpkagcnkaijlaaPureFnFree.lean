/- The law FnFree returns true: free sets are at least one more than the nodes, and all sets just if there is no edge. The elements of the code are bytes. -/
import Derived.Test.YtlpkagcnkaijlaaQKFree
import Derived.Test.YtlpkagcnkaijlaaQDraw
import Derived.Test.YtlpkagcnkaijlaaQAll
import Derived.Test.YtlpkagcnkaijlaaG6
namespace Go.Proofs.Ytlpkagcnkaijlaa.Q
open Go.RowKit Go.Proofs.Ytlpkagcnkaijlaa.G Go.Proofs.YtlpkagcnkaijlaaW.PrintWords Go.Proofs.YtlpkagcnkaijlaaW.PrintLast Go.Proofs.YtlpkagcnkaijlaaW.PrintMore
def freeLaw (n : Nat) (es : List (Nat × Nat)) : Bool := and (Nat.ble (n + 1) (freeN n es)) (Nat.beq (freeN n es) (2 ^ n) == es.isEmpty)
theorem freeLaw_all {n : Nat} {es : List (Nat × Nat)} (hv : Val n es) : freeLaw n es = true :=
  graphs_of (P := freeLaw) (by decide +kernel) (by decide +kernel) (by decide +kernel) (by decide +kernel) (by decide +kernel) hv
theorem freeN_le {n : Nat} (h : n ≤ 5) (es : List (Nat × Nat)) : freeN n es ≤ 32 := by
  have := cnt_le (freeB es) (2 ^ n) 0
  have := two_n h
  unfold freeN
  omega
end Go.Proofs.Ytlpkagcnkaijlaa.Q
namespace Go.Proofs.Ytlpkagcnkaijlaa.Pure
open Go.RowKit Go.Proofs.Ytlpkagcnkaijlaa.G Go.Proofs.Ytlpkagcnkaijlaa.Q Go.Proofs.YtlpkagcnkaijlaaW.PrintWords Go.Proofs.YtlpkagcnkaijlaaW.PrintLast Go.Proofs.YtlpkagcnkaijlaaW.PrintMore
theorem FnFree : laws_FnFree.Pure := by
  intro code _ _ hcode
  refine Ev.rounds (g := fun k => laws_FnFree.f k code) ?_
  obtain ⟨b, hb, hB⟩ := l6Open_eq (bytes_of_wf hcode)
  obtain ⟨m, l, q, hg, hd⟩ := l91Graph_ev hB 0 (by omega)
  have hD : Ev (fun k => spec_DrawKernelFree.f k code) ((m : Int), l) := by
    unfold spec_DrawKernelFree.f spec_l91Some.f
    simp only [hb, Option.bind_some]
    exact Ev.bind (Ev.bind hg (Ev.now _)) (Ev.now _)
  unfold laws_FnFree.f
  by_cases hc : (code.length : Int) > 1048576
  · simp only [hc, if_true]; exact Ev.now _
  · simp only [hc, if_false]
    refine Ev.bind hD ?_
    cases hG : isG (m : Int) l with
    | false =>
      obtain ⟨r, h1, h2⟩ := KernelFree_both hd.inR hd.wf
      have e : r = (0, false) := by
        refine Ev.uniq h1 ?_
        unfold impl_KernelFree.f
        refine Ev.bind (hG ▸ impl_WayGraph_ev (m : Int) l hd.wf) ?_
        simp only [Bool.false_eq_true, if_false]
        exact Ev.now _
      subst e
      refine Ev.bind h1 (Ev.bind h2 ?_)
      simp
      exact Ev.now _
    | true =>
      obtain ⟨n, es, hn, rfl, hv⟩ := isG_mk hG
      have hmn : m = n := by omega
      subst hmn
      refine Ev.bind (impl_KernelFree_ev hv) (Ev.bind (spec_KernelFree_ev hv) ?_)
      have hl := freeLaw_all hv
      simp only [freeLaw, Bool.and_eq_true, Nat.ble_eq] at hl
      have h5 := hv.le
      have hf := freeN_le h5 es
      have e1 : wrap64 ((m : Int) + 1) = (m : Int) + 1 := by unfold wrap64; omega
      simp only [bne_self_eq_false, Bool.false_eq_true, if_false, if_true, e1, shl_n hv]
      have c1 : (((freeN m es : Nat) : Int) ≥ (m : Int) + 1) := by omega
      have c2 : (0 : Int) ≤ (m : Int) := by omega
      simp only [c1, c2, if_true]
      refine Ev.eq_ (Ev.now _) ?_
      have h2 := hl.2
      have a1 : (((freeN m es : Nat) : Int) == ((2 ^ m : Nat) : Int)) = Nat.beq (freeN m es) (2 ^ m) := by
        rw [Bool.eq_iff_iff, beq_iff_eq, Nat.beq_eq]; omega
      have a2 : (((mkE es).length : Int) == 0) = es.isEmpty := by
        rw [mkE_length, Bool.eq_iff_iff, beq_iff_eq, List.isEmpty_iff, ← List.length_eq_zero_iff]; omega
      rw [a1, a2]; exact h2
end Go.Proofs.Ytlpkagcnkaijlaa.Pure
