/- Both KernelRoots tell the same number. The numbers are of 64 bits. -/
import Derived.Test.YtfijegfjpagjoaaQRootsI
import Derived.Test.YtfijegfjpagjoaaQBlkS
import Derived.Test.YtfijegfjpagjoaaG39
namespace Go.Proofs.Ytfijegfjpagjoaa.Q
open Go.RowKit Go.Proofs.Ytfijegfjpagjoaa.G Go.Proofs.YtfijegfjpagjoaaW.PrintWords Go.Proofs.YtfijegfjpagjoaaW.PrintLast Go.Proofs.YtfijegfjpagjoaaW.PrintMore
set_option linter.unusedVariables false
set_option linter.unusedSimpArgs false
set_option linter.unusedSectionVars false
section
variable {n : Nat} {es : List (Nat × Nat)} (hv : Val n es)
include hv
theorem sroots_l1 {o : Nat} (ho : o < 2 ^ es.length) (L : List Nat) (j c : Nat) (hj : j < L.length) (hj5 : j < 5) (hc : c ≤ j) (B : Nat) (hB : B < 32) (hg : L[j] = B) (r : Int × Bool)
    (he : Ev (fun k => spec_KernelRoots.l0 k (o : Int) (I L) true ((if rootB (arcs es o) B = true then c + 1 else c : Nat) : Int) ((j + 1 : Nat) : Int) n (mkE es)) r) :
    ∀ (d i : Nat) (b : Bool), i + d = es.length → (b && rootB ((arcs es o).drop i) B) = rootB (arcs es o) B → Ev (fun k => spec_KernelRoots.l1 k (o : Int) (I L) true (c : Int) (j : Int) b (i : Int) n (mkE es)) r
  | 0, i, b, hi, hb => by
    rw [List.drop_of_length_le (by rw [arcs_length]; omega)] at hb
    have hb : b = rootB (arcs es o) B := by rw [← hb]; simp [rootB]
    have ec : wrap64 ((c : Int) + 1) = ((c + 1 : Nat) : Int) := wrap_add _ (by omega)
    have ej : wrap64 ((j : Int) + 1) = ((j + 1 : Nat) : Int) := wrap_add _ (by omega)
    refine Ev.step (fun k => ?_) he
    simp only [spec_KernelRoots.l1]
    rw [if_neg (by rw [mkE_length]; omega), ← hb, ec, ej]
    cases b <;> rfl
  | d + 1, i, b, hi, hb => by
    have h5 := hv.le
    have hl := hv.len
    have hie : i < es.length := by clear hb he; omega
    have hi1 : i + 1 + d = es.length := by clear hb he; omega
    have hi62 : i < 2 ^ 62 := by clear hb he; omega
    have hia : i < (arcs es o).length := by rw [arcs_length]; exact hie
    have e1 : wrap64 ((i : Int) + 1) = ((i + 1 : Nat) : Int) := wrap_add _ hi62
    have hends := spec_ends_eq hv ho i hie
    have hbd := arcs_bd hv (o := o) i hie
    have hlen : (i : Int) < ((mkE es).length : Int) := by rw [mkE_length]; exact Int.ofNat_lt.2 hie
    have hLl : (j : Int) < ((I L).length : Int) := by rw [I_length]; exact Int.ofNat_lt.2 hj
    have hrd : rd (I L) (j : Int) = (B : Int) := by rw [rd_nat, List.getD_eq_getElem?_getD, List.getElem?_eq_getElem hj, hg]; rfl
    have hdr : rootB ((arcs es o).drop i) B = (!(B.testBit (arcs es o)[i].2 && !B.testBit (arcs es o)[i].1) && rootB ((arcs es o).drop (i + 1)) B) := by
      rw [List.drop_eq_getElem_cons hia]
      unfold rootB
      rw [List.any_cons, Bool.not_or]
    rw [hdr] at hb
    generalize (arcs es o)[i] = e at hends hbd hb
    have hb2 := bit_nat B e.2 (lt62 hB) (Nat.le_trans (Nat.le_of_lt (Nat.lt_of_lt_of_le hbd.2 h5)) (by decide))
    have hb1 := bit_nat B e.1 (lt62 hB) (Nat.le_trans (Nat.le_of_lt (Nat.lt_of_lt_of_le hbd.1 h5)) (by decide))
    cases h2 : B.testBit e.2 with
    | false =>
      rw [h2] at hb2 hb
      have ih := sroots_l1 ho L j c hj hj5 hc B hB hg r he d (i + 1) b hi1 (by rw [← hb]; rfl)
      refine Ev.step (fun k => ?_) ih
      simp only [spec_KernelRoots.l1]
      rw [if_pos hlen, hends, Option.bind_some]
      dsimp only
      rw [if_pos (Int.natCast_nonneg j), if_pos hLl, if_pos (Int.natCast_nonneg _), hrd, hb2, if_neg (by decide), e1]
    | true =>
      rw [h2] at hb2 hb
      cases h1 : B.testBit e.1 with
      | false =>
        rw [h1] at hb1 hb
        have ih := sroots_l1 ho L j c hj hj5 hc B hB hg r he d (i + 1) false hi1 (by rw [← hb]; simp)
        refine Ev.step (fun k => ?_) ih
        simp only [spec_KernelRoots.l1]
        rw [if_pos hlen, hends, Option.bind_some]
        dsimp only
        rw [if_pos (Int.natCast_nonneg j), if_pos hLl, if_pos (Int.natCast_nonneg _), hrd, hb2, if_pos (by decide), if_pos (Int.natCast_nonneg _), hb1, if_pos (by decide), e1]
      | true =>
        rw [h1] at hb1 hb
        have ih := sroots_l1 ho L j c hj hj5 hc B hB hg r he d (i + 1) b hi1 (by rw [← hb]; rfl)
        refine Ev.step (fun k => ?_) ih
        simp only [spec_KernelRoots.l1]
        rw [if_pos hlen, hends, Option.bind_some]
        dsimp only
        rw [if_pos (Int.natCast_nonneg j), if_pos hLl, if_pos (Int.natCast_nonneg _), hrd, hb2, if_pos (by decide), if_pos (Int.natCast_nonneg _), hb1, if_neg (by decide), e1]
theorem sroots_l0 {o : Nat} (ho : o < 2 ^ es.length) (L : List Nat) (hL : ∀ x ∈ L, x < 32) (hlen : L.length ≤ 5) :
    ∀ (d j c : Nat), j + d = L.length → c ≤ j → Ev (fun k => spec_KernelRoots.l0 k (o : Int) (I L) true (c : Int) (j : Int) n (mkE es)) (((c + (L.drop j).countP (rootB (arcs es o)) : Nat) : Int), true)
  | 0, j, c, hj, hc => by
    rw [List.drop_of_length_le (by omega)]
    refine Ev.step (f := fun _ => some ((c : Int), true)) (fun k => ?_) (Ev.now _)
    simp only [spec_KernelRoots.l0]
    rw [if_neg (by rw [I_length]; omega)]
  | d + 1, j, c, hj, hc => by
    have hjl : j < L.length := by omega
    have hx := hL L[j] (List.getElem_mem hjl)
    rw [List.drop_eq_getElem_cons hjl, List.countP_cons]
    have ih := sroots_l0 ho L hL hlen d (j + 1) (if rootB (arcs es o) L[j] = true then c + 1 else c) (by omega) (by split <;> omega)
    have h1 := sroots_l1 hv ho L j c hjl (by omega) hc L[j] hx rfl _ ih es.length 0 true (Nat.zero_add _) (by rw [List.drop_zero, Bool.true_and])
    refine Ev.step (fun k => ?_) (Ev.eq_ h1 ?_)
    · simp only [spec_KernelRoots.l0]
      rw [if_pos (by rw [I_length]; omega)]
      rfl
    · congr 2
      split <;> omega
theorem spec_KernelRoots_ev {o : Nat} (ho : o < 2 ^ es.length) : Ev (fun k => spec_KernelRoots.f k n (mkE es) o) (((rootsN n es o : Nat) : Int), true) := by
  have h5 := hv.le
  unfold spec_KernelRoots.f
  refine Ev.bind (spec_StrongBlocks_ev hv ho) ?_
  have h := sroots_l0 hv ho (blocks n (nxt n (arcs es o)) (nxt n (arcs es (2 ^ es.length - 1 - o)))) (fun x hx => by
    unfold blocks at hx
    rw [List.mem_map] at hx
    obtain ⟨u, hu, rfl⟩ := hx
    rw [sel_mem] at hu
    exact blk_lt h5 (nxt_sets hv o) (nxt_sets hv _) (turn_bits hv ho) (nxt_hlt hv o) (by omega)) (by unfold blocks; rw [List.length_map, sel_len]; exact Nat.le_trans (cnt_le _ _ _) h5) _ 0 0 (Nat.zero_add _) (Nat.le_refl _)
  rw [Nat.zero_add, List.drop_zero] at h
  exact h
end
theorem spec_KernelRoots_no {a : Int} {l : List E} {o : Int} (h : Ev (fun k => spec_WayIn.f k a l o) false) : Ev (fun k => spec_KernelRoots.f k a l o) (0, false) := by
  have hS : Ev (fun k => spec_StrongBlocks.f k a l o) ([], false) := by
    unfold spec_StrongBlocks.f
    simp only [Option.bind_some]
    refine Ev.bind h ?_
    simp only [Bool.false_eq_true, if_false]
    exact Ev.now _
  unfold spec_KernelRoots.f
  refine Ev.bind hS ?_
  refine Ev.step (f := fun _ => some (0, false)) (fun k => ?_) (Ev.now _)
  simp only [spec_KernelRoots.l0]
  rw [if_neg (by decide)]
theorem KernelRoots_both {a : Int} (ha : InR a) {l : List E} (hl : WfE l) (o : Int) : ∃ r, Ev (fun k => impl_KernelRoots.f k a l o) r ∧ Ev (fun k => spec_KernelRoots.f k a l o) r := by
  rcases way_split ha hl o with ⟨n, es, o', rfl, rfl, rfl, hv, ho⟩ | ⟨h1, h2⟩
  · exact ⟨_, impl_KernelRoots_ev hv ho, spec_KernelRoots_ev hv ho⟩
  · exact ⟨(0, false), impl_KernelRoots_no h1, spec_KernelRoots_no h2⟩
end Go.Proofs.Ytfijegfjpagjoaa.Q
